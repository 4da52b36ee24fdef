/- Several texts of this claim, one behind the other. -/
import Derived.Test.YtjeaknipmdfkdaaGreatDoorK2
import Derived.Test.YtjeaknipmdfkdaaGreatDoorK32
import Derived.Test.YtjeaknipmdfkdaaGreatDoorK33
import Derived.Test.YtjeaknipmdfkdaaGreatDoorK28
import Derived.Test.YtjeaknipmdfkdaaGreatDoorK31

section
/- porterref10.Data: the document. -/
set_option linter.unusedVariables false
set_option linter.unusedSimpArgs false
namespace Go.Proofs.YtjeaknipmdfkdaaGreatDoor
open Go.RowKit
attribute [local go_sem] Oper.semAt_some envL lookV

set_option maxRecDepth 100000 in
set_option maxHeartbeats 16000000 in
theorem rd_Data (s : ByteArray) (a b c d : Int) (w : World) (ha : 0 ≤ a ∧ a ≤ 4294967295) (hb : 0 ≤ b ∧ b ≤ 65535) (hc : 0 ≤ c ∧ c ≤ 4294967295) (hd : 0 ≤ d ∧ d ≤ 65535) (hs : s.size ≤ 1000000) (hem : emWhy (L s) = 0) :
    Calls Tryz.prog 36 #[.string s, .agg #[.int .u32 a, .int .u16 b, .int .u32 c, .int .u16 d]] w (Ret (.string (S (dtOf (L s) a b c d))) w) := by
  have hL := L_length s
  obtain ⟨p1, p2, p3, _, _, _⟩ := emWhy_parts hem
  have he : emEnd (L s) = ((emAt (L s) : Nat) : Int) := by unfold emAt; have := at_bd (L s) 0; unfold emEnd; omega
  have cl := fun W => rd_Look s W (by omega)
  unfold lkOf at cl
  rw [if_pos hem, he] at cl
  have hx := be16_bd (L s) 10
  have cwd := fun W => rn_Word s 10 W (by omega) (by omega)
  rw [show ((10 : Nat) : Int) = 10 from rfl] at cwd
  obtain ⟨n, hn⟩ : ∃ n, n = dtSum (L s) a c := ⟨_, rfl⟩
  have hnb : 0 ≤ n ∧ n ≤ 65535 := by rw [hn]; exact updates_bd hx
  obtain ⟨h1, hh1⟩ : ∃ h1, h1 = dtHd (L s) a c := ⟨_, rfl⟩
  obtain ⟨cr, hcr⟩ : ∃ cr, cr = crOf ((L s).drop (emAt (L s))) (((L s).drop 12).take 8) (emTup (L s)).p (emAsk (L s)) a b c d := ⟨_, rfl⟩
  have hcrl : cr.length = s.size - emAt (L s) := by rw [hcr, crOf_len (by rw [List.length_drop]; omega), List.length_drop, hL]
  have hLk : L (s.extract 0 (emAt (L s))) = (L s).take (emAt (L s)) := by rw [L_extract, List.drop_zero, Nat.sub_zero]
  have hLi : L (s.extract 12 20) = ((L s).drop 12).take 8 := L_extract s 12 20
  have hLr : L (s.extract (emAt (L s)) s.size) = (L s).drop (emAt (L s)) := L_from s _
  have hzk : (s.extract 0 (emAt (L s))).size = emAt (L s) := by simp; omega
  have hzi : (s.extract 12 20).size = 8 := by simp; omega
  have hzr : (s.extract (emAt (L s)) s.size).size = s.size - emAt (L s) := by simp
  have hh1l : h1.length = emAt (L s) := by rw [hh1]; unfold dtHd; simp only [List.length_append, List.length_take, List.length_drop, ipsOf_len]; omega
  have cp := fun W => rn_Pair a b c d W ha hc
  have cw1 := fun W => rn_With (s.extract 0 (emAt (L s))) 12 (S (ipsOf a c)) W (by omega) (by rw [S_size, ipsOf_len]; omega)
  rw [hLk, L_S, S_size, ipsOf_len, show ((L s).take (emAt (L s))).take 12 ++ (ipsOf a c ++ ((L s).take (emAt (L s))).drop (12 + 8)) = h1 from by rw [hh1]; rfl, show ((12 : Nat) : Int) = 12 from rfl] at cw1
  have cu := fun W => r_Updates (be16 (L s) 10) (s.extract 12 20) ((S h1).extract 12 20) W hx (by omega) (by simp; omega)
  rw [hLi, L_extract, L_S, show updates (be16 (L s) 10) (((L s).drop 12).take 8) ((h1.drop 12).take (20 - 12)) = n from by rw [hn, hh1]; rfl] at cu
  have cpn := fun W => r_Put16 n W hnb.1 hnb.2
  have cw2 := fun W => rn_With (S h1) 10 (S (put16 n)) W (by rw [S_size]; omega) (by rw [S_size, S_size, put16_length]; omega)
  rw [L_S, L_S, S_size, put16_length, show ((10 : Nat) : Int) = 10 from rfl] at cw2
  obtain ⟨h2, hh2⟩ : ∃ h2, h2 = h1.take 10 ++ (put16 n ++ h1.drop (10 + 2)) := ⟨_, rfl⟩
  rw [← hh2] at cw2
  have hh2l : h2.length = emAt (L s) := by rw [hh2]; simp only [List.length_append, List.length_take, List.length_drop, put16_length]; omega
  have ccr := fun W => rd_carried (s.extract (emAt (L s)) s.size) (s.extract 12 20) ((emAt (L s) : Nat) : Int) 0 (emTup (L s)) (emAsk (L s)) a b c d W ha hb hc hd (by omega) (by omega) hzi
  rw [hLr, hLi, ← hcr] at ccr
  have RES : S (dtOf (L s) a b c d) = S h2 ++ S cr := by rw [S_append, hh2, hh1, hn, hcr]; rfl
  rw [RES]
  have z5 : ¬ 9223372036854775807 < (S h2).size + (S cr).size := by rw [S_size, S_size]; omega
  have i2 : (20 : Int) ≤ ((S h1).size : Int) := by rw [S_size]; omega
  have i2n : 20 ≤ (S h1).size := by rw [S_size]; omega
  obtain ⟨s1, hs1⟩ : ∃ s1, s1 = S h1 := ⟨_, rfl⟩
  obtain ⟨s2, hs2⟩ : ∃ s2, s2 = S h2 := ⟨_, rfl⟩
  obtain ⟨s3, hs3⟩ : ∃ s3, s3 = S cr := ⟨_, rfl⟩
  rw [← hs1] at cw1 cu cw2 i2 i2n
  rw [← hs2] at cw2 z5 ⊢
  rw [← hs3] at ccr z5 ⊢
  obtain ⟨ips, hips⟩ : ∃ ips, ips = S (ipsOf a c) := ⟨_, rfl⟩
  rw [← hips] at cp cw1
  obtain ⟨pn, hpn⟩ : ∃ pn, pn = S (put16 n) := ⟨_, rfl⟩
  rw [← hpn] at cpn cw2
  obtain ⟨k, hk⟩ : ∃ k, k = emAt (L s) := ⟨_, rfl⟩
  rw [← hk] at cl cw1 ccr
  obtain ⟨t, ht⟩ : ∃ t, t = emTup (L s) := ⟨_, rfl⟩
  rw [← ht] at cl ccr
  obtain ⟨q, hq⟩ : ∃ q, q = emAsk (L s) := ⟨_, rfl⟩
  rw [← hq] at cl ccr
  generalize be16 (L s) 10 = x at *
  have i1 : (k : Int) ≤ (s.size : Int) := by omega
  have i1n : k ≤ s.size := by omega
  have i3 : (20 : Int) ≤ (s.size : Int) := by omega
  have i3n : 20 ≤ s.size := by omega
  have CL := hide cl; have CWD := hide cwd; have CP := hide cp; have CW1 := hide cw1; have CU := hide cu; have CPN := hide cpn; have CW2 := hide cw2; have CCR := hide ccr
  clear cl cwd cp cw1 cu cpn cw2 ccr hL p1 p2 p3 he hx hn hnb hh1 hcr hcrl hLk hLi hLr hzk hzi hzr hh1l hh2 hh2l RES hs1 hs2 hs3 hips hpn hk ht hq hem hs ha hb hc hd
  go_enter Tryz.func36, Tryz.ntmps36
  have d0 := Cells.new w #[.int .u32 a, .int .u16 b, .int .u32 c, .int .u16 d] 39
  have l0 : Below w.heap.size w (w.alloc (.cells #[.int .u32 a, .int .u16 b, .int .u32 c, .int .u16 d] 39)) := (fresh_below _ _)
  have L0 := hide l0; have D0 := hide d0
  clear l0 d0
  go_upto_region 1 with fail
  have l0 := L0.out; have d0 := D0.out
  clear L0 D0
  generalize (w.alloc (.cells #[.int .u32 a, .int .u16 b, .int .u32 c, .int .u16 d] 39)) = w1 at *
  obtain ⟨qd0_0, qd0_1, qd0_2, qd0_3⟩ := d0.q4
  have bb : Below w1.heap.size w1 w1 := Below.refl _ _
  have L0 := hide l0; have D0 := hide d0
  clear l0 d0
  go_upto_region 2 with (go_at_call 30; (with_reducible refine (CL.out _).mono ?_); rintro e w2 ⟨rfl, b2⟩)
  have n3 := Cells.new w2 #[.int .i64 (k : Int), .int .u8 t.p, .int .u32 t.a, .int .u16 t.b, .int .u32 t.c, .int .u16 t.d, .bool q, .int .i64 0] 84
  have b3 := bstep b2 (fresh_below w2 (.cells #[.int .i64 (k : Int), .int .u8 t.p, .int .u32 t.a, .int .u16 t.b, .int .u32 t.c, .int .u16 t.d, .bool q, .int .i64 0] 84))
  have d3 := Cells.below b3 D0.out
  have L3 := hide (bstep L0.out b3)
  clear b2 b3 bb qd0_0 qd0_1 qd0_2 qd0_3 D0 L0 CL
  generalize w2.heap.size = g2 at n3 ⊢
  generalize (w2.alloc (.cells #[.int .i64 (k : Int), .int .u8 t.p, .int .u32 t.a, .int .u16 t.b, .int .u32 t.c, .int .u16 t.d, .bool q, .int .i64 0] 84)) = w3 at *
  obtain ⟨qn3_0, qn3_1, qn3_2, qn3_3, qn3_4, qn3_5, qn3_6, qn3_7⟩ := n3.q8
  obtain ⟨qd3_0, qd3_1, qd3_2, qd3_3⟩ := d3.q4
  have bb : Below w3.heap.size w3 w3 := Below.refl _ _
  clear n3 d3
  have sA := Below.drew bb
  focus
    refine wp_region_J [] (fun W => Below w3.heap.size w3 W) (by kernel_rfl) (sA) (fun hS0 => ?_)
    refine tJ 0 rfl hS0 ?_
    (try simp only [Act.put, putS])
    refine tJ 1 rfl hS0 ?_
    (try simp only [Act.put, putS])
    refine tJ 2 rfl hS0 ?_
    (try simp only [Act.put, putS])
    refine tJ 3 rfl hS0 ?_
    (try simp only [Act.put, putS])
    refine tJ 4 rfl hS0 ?_
    (try simp only [Act.put, putS])
    refine rJ [5] ?_
    refine (AllReadyJ.cons rfl (fun K hK => ?_) AllReadyJ.nil)
    rw [if_pos (by kernel_rfl)]
    (try simp only [putG])
    (focus go_simp)
    (focus ((with_reducible refine (CP.out _).mono ?_); rintro e wa ⟨rfl, ba⟩; have sq := bstep hS0 ba))
    (focus (try go_wp2_with fail))
    refine hK.out _ _ ?hs (fun hS0 => ?_)
    case hs => (first | with_reducible exact hS0 | with_reducible exact sq)
    clear hK K
    (try simp only [Act.put, putS])
    refine rJ [6] ?_
    refine (AllReadyJ.cons rfl (fun K hK => ?_) AllReadyJ.nil)
    rw [if_pos (by kernel_rfl)]
    (try simp only [putG])
    (focus go_simp)
    (focus ((with_reducible refine (CW1.out _).mono ?_); rintro e wb ⟨rfl, bc⟩; have sq := bstep hS0 bc))
    (focus (try go_wp2_with fail))
    refine hK.out _ _ ?hs (fun hS0 => ?_)
    case hs => (first | with_reducible exact hS0 | with_reducible exact sq)
    clear hK K
    (try simp only [Act.put, putS])
    refine tJ 7 rfl hS0 ?_
    (try simp only [Act.put, putS])
    refine wpAnyJ_done (by kernel_rfl) ?_ _
  clear sA sq ba bc CP CW1
  go_upto_region 3 with fail
  have sB := Below.drew hS0
  clear hS0
  focus
    refine wp_region_J [] (fun W => Below w3.heap.size w3 W) (by kernel_rfl) (sB) (fun hS0 => ?_)
    refine tJ 0 rfl hS0 ?_
    (try simp only [Act.put, putS])
    refine tJ 2 rfl hS0 ?_
    (try simp only [Act.put, putS])
    refine tJ 3 rfl hS0 ?_
    (try simp only [Act.put, putS])
    refine tJ 4 rfl hS0 ?_
    (try simp only [Act.put, putS])
    refine tJ 5 rfl hS0 ?_
    (try simp only [Act.put, putS])
    refine rJ [1] ?_
    refine (AllReadyJ.cons rfl (fun K hK => ?_) AllReadyJ.nil)
    rw [if_pos (by kernel_rfl)]
    (try simp only [putG])
    (focus go_simp)
    (focus ((with_reducible refine (CWD.out _).mono ?_); rintro e wc ⟨rfl, ba⟩; have sq := bstep hS0 ba))
    (focus (try go_wp2_with fail))
    refine hK.out _ _ ?hs (fun hS0 => ?_)
    case hs => (first | with_reducible exact hS0 | with_reducible exact sq)
    clear hK K
    (try simp only [Act.put, putS])
    refine rJ [6] ?_
    refine (AllReadyJ.cons rfl (fun K hK => ?_) AllReadyJ.nil)
    rw [if_pos (by kernel_rfl)]
    (try simp only [putG])
    (focus go_simp)
    (focus ((with_reducible refine (CU.out _).mono ?_); rintro e wd ⟨rfl, bc⟩; have sq := bstep hS0 bc))
    (focus (try go_wp2_with fail))
    refine hK.out _ _ ?hs (fun hS0 => ?_)
    case hs => (first | with_reducible exact hS0 | with_reducible exact sq)
    clear hK K
    (try simp only [Act.put, putS])
    refine tJ 7 rfl hS0 ?_
    (try simp only [Act.put, putS])
    refine wpAnyJ_done (by kernel_rfl) ?_ _
  clear sB sq ba bc CWD CU
  go_upto_region 5 with (first | (go_at_call 39; (with_reducible refine (CPN.out _).mono ?_); rintro e we ⟨rfl, be⟩) | (go_at_call 38; (with_reducible refine (CW2.out _).mono ?_); rintro e wf ⟨rfl, bf⟩))
  have sC := Below.drew (bstep (bstep hS0 be) bf)
  clear hS0 be bf CPN CW2
  focus
    refine wp_region_J [] (fun W => Below w3.heap.size w3 W) (by kernel_rfl) (sC) (fun hS0 => ?_)
    refine tJ 0 rfl hS0 ?_
    (try simp only [Act.put, putS])
    refine tJ 1 rfl hS0 ?_
    (try simp only [Act.put, putS])
    refine tJ 2 rfl hS0 ?_
    (try simp only [Act.put, putS])
    refine tJ 3 rfl hS0 ?_
    (try simp only [Act.put, putS])
    refine tJ 4 rfl hS0 ?_
    (try simp only [Act.put, putS])
    refine tJ 5 rfl hS0 ?_
    (try simp only [Act.put, putS])
    refine tJ 6 rfl hS0 ?_
    (try simp only [Act.put, putS])
    refine tJ 7 rfl hS0 ?_
    (try simp only [Act.put, putS])
    refine tJ 8 rfl hS0 ?_
    (try simp only [Act.put, putS])
    refine rJ [9] ?_
    refine (AllReadyJ.cons rfl (fun K hK => ?_) AllReadyJ.nil)
    rw [if_pos (by kernel_rfl)]
    (try simp only [putG])
    (focus go_simp)
    (focus ((with_reducible refine (CCR.out _).mono ?_); rintro e wg ⟨rfl, ba⟩; have sq := bstep hS0 ba))
    (focus (try go_wp2_with fail))
    refine hK.out _ _ ?hs (fun hS0 => ?_)
    case hs => (first | with_reducible exact hS0 | with_reducible exact sq)
    clear hK K
    (try simp only [Act.put, putS])
    refine tJ 10 rfl hS0 ?_
    (try simp only [Act.put, putS])
    refine tJ 11 rfl hS0 ?_
    (try simp only [Act.put, putS])
    refine wpAnyJ_done (by kernel_rfl) ?_ _
  go_wp2_with fail
  go_ret
  exact ⟨rfl, bstep L3.out hS0⟩
end Go.Proofs.YtjeaknipmdfkdaaGreatDoor
end

section
/- porterref10.Translate: the document. -/
set_option linter.unusedVariables false
set_option linter.unusedSimpArgs false
namespace Go.Proofs.YtjeaknipmdfkdaaGreatDoor
open Go.RowKit
attribute [local go_sem] Oper.semAt_some envL lookV

theorem tr_app {r nw : List UInt8} {k : Nat} {n : Int} (h : k + 8 ≤ r.length) : (lay r (k + 2) n).take (k + 8) ++ nw = lay (r.take (k + 8) ++ nw) (k + 2) n := by
  have hA : (r.take (k + 8)).length = k + 8 := by rw [List.length_take]; omega
  have h1 : lay r (k + 2) n = lay (r.take (k + 8)) (k + 2) n ++ r.drop (k + 8) := by
    conv => lhs; rw [← List.take_append_drop (k + 8) r]
    exact lay_app (by omega)
  have hB : (lay (r.take (k + 8)) (k + 2) n).length = k + 8 := by rw [lay_length (by omega), hA]
  rw [h1, List.take_append_of_le_length (by omega), List.take_of_length_le (by omega)]
  exact (lay_app (by omega)).symm
set_option maxRecDepth 100000 in
set_option maxHeartbeats 16000000 in
theorem rd_Translate (oa ob oc od a b c d : Int) (s : ByteArray) (w : World) (hoa : 0 ≤ oa ∧ oa ≤ 4294967295) (hob : 0 ≤ ob ∧ ob ≤ 65535) (hoc : 0 ≤ oc ∧ oc ≤ 4294967295) (hod : 0 ≤ od ∧ od ≤ 65535) (ha : 0 ≤ a ∧ a ≤ 4294967295) (hb : 0 ≤ b ∧ b ≤ 65535) (hc : 0 ≤ c ∧ c ≤ 4294967295) (hd : 0 ≤ d ∧ d ≤ 65535) (hs : s.size ≤ 140737488351232) :
    Calls Tryz.prog 12 #[.string s, .agg #[.int .u32 oa, .int .u16 ob, .int .u32 oc, .int .u16 od], .agg #[.int .u32 a, .int .u16 b, .int .u32 c, .int .u16 d]] w (Ret (.tuple #[.string (trOut s oa ob oc od a b c d), .int .i64 (trWhy s)]) w) := by
  have ci := fun W => rd_Inner s W hs
  have cr := fun W => rn_Apply oa ob oc od s W hoa hob hoc hod hs
  by_cases h : emsWhy s = 0
  rotate_left 1
  · have e1 : trWhy s = emsWhy s := by unfold trWhy; rw [if_pos h]
    have e2 : trOut s oa ob oc od a b c d = { data := #[] } := by unfold trOut; rw [e1, if_neg h]
    rw [e1, e2]
    have hr : (emsWhy s != 0) = true := by simpa using h
    generalize emsWhy s = r at *
    generalize inTup s = tt at *
    have CI := hide ci
    clear ci cr hs h e1 e2 hoa hob hoc hod ha hb hc hd
    go_enter Tryz.func12, Tryz.ntmps12
    have d0 := Cells.new w #[.int .u32 oa, .int .u16 ob, .int .u32 oc, .int .u16 od] 39
    replace d0 := Cells.below (fresh_below (w.alloc (.cells #[.int .u32 oa, .int .u16 ob, .int .u32 oc, .int .u16 od] 39)) (.cells #[.int .u32 a, .int .u16 b, .int .u32 c, .int .u16 d] 39)) d0
    have d1 := Cells.new (w.alloc (.cells #[.int .u32 oa, .int .u16 ob, .int .u32 oc, .int .u16 od] 39)) #[.int .u32 a, .int .u16 b, .int .u32 c, .int .u16 d] 39
    have l0 : Below w.heap.size w ((w.alloc (.cells #[.int .u32 oa, .int .u16 ob, .int .u32 oc, .int .u16 od] 39)).alloc (.cells #[.int .u32 a, .int .u16 b, .int .u32 c, .int .u16 d] 39)) := (bstep (fresh_below _ _) (fresh_below _ _))
    simp only [World.size_alloc] at d1
    have L0 := hide l0; have D0 := hide d0; have D1 := hide d1
    clear l0 d0 d1
    go_upto_region 1 with fail
    have l0 := L0.out; have d0 := D0.out; have d1 := D1.out
    clear L0 D0 D1
    generalize ((w.alloc (.cells #[.int .u32 oa, .int .u16 ob, .int .u32 oc, .int .u16 od] 39)).alloc (.cells #[.int .u32 a, .int .u16 b, .int .u32 c, .int .u16 d] 39)) = w1 at *
    obtain ⟨qd0_0, qd0_1, qd0_2, qd0_3⟩ := d0.q4
    obtain ⟨qd1_0, qd1_1, qd1_2, qd1_3⟩ := d1.q4
    have bb : Below w1.heap.size w1 w1 := Below.refl _ _
    have L0 := hide l0; have D0 := hide d0; have D1 := hide d1
    clear l0 d0 d1
    go_wp2_with (go_at_call 10; (with_reducible refine (CI.out _).mono ?_); rintro e w2 ⟨rfl, b2⟩)
    go_ret2
    exact ⟨rfl, bstep (bstep L0.out b2) (fresh_below _ _)⟩
  rw [h] at ci
  by_cases hw : rwWhy s = 0
  rotate_left 1
  · have e1 : trWhy s = rwWhy s := by unfold trWhy; rw [if_neg (by omega)]
    have e2 : trOut s oa ob oc od a b c d = { data := #[] } := by unfold trOut; rw [e1, if_neg hw]
    rw [e1, e2]
    have hr : (rwWhy s != 0) = true := by simpa using hw
    generalize rwWhy s = r at *
    generalize rwOut s oa ob oc od = ro at *
    generalize inTup s = tt at *
    have CI := hide ci; have CR := hide cr
    clear ci cr hs h e1 e2 hw hoa hob hoc hod ha hb hc hd
    go_enter Tryz.func12, Tryz.ntmps12
    have d0 := Cells.new w #[.int .u32 oa, .int .u16 ob, .int .u32 oc, .int .u16 od] 39
    replace d0 := Cells.below (fresh_below (w.alloc (.cells #[.int .u32 oa, .int .u16 ob, .int .u32 oc, .int .u16 od] 39)) (.cells #[.int .u32 a, .int .u16 b, .int .u32 c, .int .u16 d] 39)) d0
    have d1 := Cells.new (w.alloc (.cells #[.int .u32 oa, .int .u16 ob, .int .u32 oc, .int .u16 od] 39)) #[.int .u32 a, .int .u16 b, .int .u32 c, .int .u16 d] 39
    have l0 : Below w.heap.size w ((w.alloc (.cells #[.int .u32 oa, .int .u16 ob, .int .u32 oc, .int .u16 od] 39)).alloc (.cells #[.int .u32 a, .int .u16 b, .int .u32 c, .int .u16 d] 39)) := (bstep (fresh_below _ _) (fresh_below _ _))
    simp only [World.size_alloc] at d1
    have L0 := hide l0; have D0 := hide d0; have D1 := hide d1
    clear l0 d0 d1
    go_upto_region 1 with fail
    have l0 := L0.out; have d0 := D0.out; have d1 := D1.out
    clear L0 D0 D1
    generalize ((w.alloc (.cells #[.int .u32 oa, .int .u16 ob, .int .u32 oc, .int .u16 od] 39)).alloc (.cells #[.int .u32 a, .int .u16 b, .int .u32 c, .int .u16 d] 39)) = w1 at *
    obtain ⟨qd0_0, qd0_1, qd0_2, qd0_3⟩ := d0.q4
    obtain ⟨qd1_0, qd1_1, qd1_2, qd1_3⟩ := d1.q4
    have bb : Below w1.heap.size w1 w1 := Below.refl _ _
    have L0 := hide l0; have D0 := hide d0; have D1 := hide d1
    clear l0 d0 d1
    go_upto_region 4 with (go_at_call 10; (with_reducible refine (CI.out _).mono ?_); rintro e w2 ⟨rfl, b2⟩)
    have bz := bstep (bstep bb b2) (fresh_below w2 (.cells #[.int .u8 tt.p, .int .u32 tt.a, .int .u16 tt.b, .int .u32 tt.c, .int .u16 tt.d] 33))
    clear b2
    generalize (w2.alloc (.cells #[.int .u8 tt.p, .int .u32 tt.a, .int .u16 tt.b, .int .u32 tt.c, .int .u16 tt.d] 33)) = w3 at *
    go_wp2_with (go_at_call 35; (with_reducible refine (CR.out _).mono ?_); rintro e w4 ⟨rfl, b4⟩)
    go_ret2
    exact ⟨rfl, bstep (bstep L0.out bz) b4⟩
  rw [hw] at cr
  have e1 : trWhy s = 0 := by unfold trWhy; rw [if_neg (by omega)]; exact hw
  obtain ⟨k, hk1, hk2, hk3, hk4, hk5, hk6⟩ := tr_size (a := oa) (b := ob) (c := oc) (d := od) e1 hoa hob hoc hod
  obtain ⟨hsw, hk0, hem⟩ := ems_seen h
  have hms : msWhy s = 0 := by unfold msWhy; rw [if_neg (by omega), if_neg (by omega)]
  have hdl : (L (emData s)).length = (emData s).size := L_length _
  have hnl := emNew_len hem a b c d
  have cd := fun W => rd_Data (emData s) a b c d W ha hb hc hd (by omega) hem
  rw [dtOf_em hem] at cd
  have cm := fun W => rd_message s W hs
  rw [show msOf s = msgOf (ipRest s) from by unfold msOf; rw [if_pos hms], show (msgOf (ipRest s)).d = emData s from rfl, hms] at cm
  obtain ⟨m, hm⟩ : ∃ m, m = msgOf (ipRest s) := ⟨_, rfl⟩
  have hmn : 0 ≤ m.n ∧ m.n ≤ 65535 := by rw [hm]; exact be16_bd _ _
  obtain ⟨nw, hnw⟩ : ∃ nw, nw = emNew (L (emData s)) a b c d := ⟨_, rfl⟩
  obtain ⟨ro, hro⟩ : ∃ ro, ro = rwOut s oa ob oc od := ⟨_, rfl⟩
  obtain ⟨ev, hev⟩ : ∃ ev : Nat, ev = (emData s).size / 2 * 2 := ⟨_, rfl⟩
  obtain ⟨sm, hsm⟩ : ∃ sm, sm = emSum s a b c d := ⟨_, rfl⟩
  rw [← hnw] at hnl cd
  have hsm2 : sm = updates m.n (L ((emData s).extract 0 ev)) (L ((S nw).extract 0 ev)) := by
    rw [hsm, L_extract, L_extract, L_S, List.drop_zero, List.drop_zero, Nat.sub_zero]
    unfold emSum emEven
    rw [← hnw, ← hm, hdl, ← hev]
  have hsb : 0 ≤ sm ∧ sm ≤ 65535 := by rw [hsm2]; exact updates_bd hmn
  rw [← hro] at hk4 hk5 cr
  have hrl : (L ro).length = ro.size := L_length _
  obtain ⟨tx, htx⟩ : ∃ tx, tx = trOut s oa ob oc od a b c d := ⟨_, rfl⟩
  have htx2 : tx = S ((lay (L ro) (k + 2) sm).take (k + 8) ++ nw) := by
    rw [htx, tr_app (by omega)]
    unfold trOut trNew
    rw [if_pos e1, ← hro, ← hnw, ← hsm, show ro.size - (emData s).size = k + 8 from by omega]
    rfl
  rw [e1, ← htx]
  rw [← hm] at cm
  have cu := fun W => r_Updates m.n ((emData s).extract 0 ev) ((S nw).extract 0 ev) W hmn (by simp; omega) (by simp [S_size]; omega)
  rw [← hsm2] at cu
  have cp := fun W => r_Put16 sm W hsb.1 hsb.2
  have hll : (lay (L ro) (k + 2) sm).length = ro.size := by rw [lay_length (by omega), hrl]
  have cw1 := fun W => rn_With ro (k + 2) (S (put16 sm)) W (by omega) (by rw [S_size, put16_length]; omega)
  rw [L_S, S_size, put16_length, show (L ro).take (k + 2) ++ (put16 sm ++ (L ro).drop (k + 2 + 2)) = lay (L ro) (k + 2) sm from by unfold lay; rw [List.append_assoc]] at cw1
  have cw2 := fun W => rn_With (S (lay (L ro) (k + 2) sm)) (k + 8) (S nw) W (by rw [S_size, hll]; omega) (by rw [S_size, S_size, hnl, hll]; omega)
  rw [L_S, L_S, S_size, hnl, List.drop_eq_nil_of_le (by omega), List.append_nil, ← htx2] at cw2
  have hz1 : (S nw).size = (emData s).size := by rw [S_size, hnl]; exact hdl
  have hx := at_bd (L s) 0
  have i5 : 0 < s.size := by omega
  have e0 : (((s[0]'i5).toNat : Nat) : Int) = at_ (L s) 0 := by rw [getElem_L s 0 (by omega)]; rfl
  have j5 : (0 : Int) < (s.size : Int) := by omega
  generalize S (put16 sm) = ws at *
  generalize S (lay (L ro) (k + 2) sm) = t1 at *
  obtain ⟨sn, hsn⟩ : ∃ sn, sn = S nw := ⟨_, rfl⟩
  rw [← hsn] at cd cu cw2 hz1
  obtain ⟨x, hxx⟩ : ∃ x, x = at_ (L s) 0 := ⟨_, rfl⟩
  rw [← hxx] at e0 hx hk1
  generalize emData s = dt at *
  generalize inTup s = tt at *
  obtain ⟨z8, hz8⟩ : ∃ z8 : Nat, z8 = k + 8 := ⟨_, rfl⟩
  obtain ⟨z2, hz2⟩ : ∃ z2 : Nat, z2 = k + 2 := ⟨_, rfl⟩
  rw [← hz2] at cw1
  rw [← hz8] at cw2
  obtain ⟨hf, hhf⟩ : ∃ hf : Int, hf = (sn.size : Int) / 2 := ⟨_, rfl⟩
  have v1 : (sn.size : Int).tdiv 2 = hf := by rw [hhf]; exact Int.tdiv_eq_ediv_of_nonneg (by omega)
  have v2 : IntKind.i64.wrap hf = hf := IntWalk.i64_in _ (by omega)
  have v3 : IntKind.i64.wrap (hf * 2) = (ev : Int) := by rw [IntWalk.i64_in _ (by omega)]; omega
  have m5 : x.tmod 16 = x % 16 := Int.tmod_eq_emod_of_nonneg (by omega)
  obtain ⟨y, hy⟩ : ∃ y, y = x % 16 := ⟨_, rfl⟩
  rw [← hy] at hk1 m5
  have hyb : 0 ≤ y ∧ y ≤ 15 := by omega
  have wy : IntKind.i64.wrap y = y := IntWalk.i64_in _ (by omega)
  have wy8 : IntKind.u8.wrap y = y := by rw [IntKind.wrap_u8]; omega
  have wz : IntKind.i64.wrap (y * 4) = (k : Int) := by rw [IntWalk.i64_in _ (by omega), hk1]
  have w2' : IntKind.i64.wrap ((k : Int) + 2) = (z2 : Int) := by rw [IntWalk.i64_in _ (by omega)]; omega
  have w8' : IntKind.i64.wrap ((k : Int) + 8) = (z8 : Int) := by rw [IntWalk.i64_in _ (by omega)]; omega
  have i1 : ev ≤ sn.size := by omega
  have i2 : ev ≤ dt.size := by omega
  have i3 : (ev : Int) ≤ (sn.size : Int) := by omega
  have i4 : (ev : Int) ≤ (dt.size : Int) := by omega
  have CI := hide ci; have CR := hide cr; have CM := hide cm; have CD := hide cd; have CU := hide cu; have CP := hide cp; have CW1 := hide cw1; have CW2 := hide cw2
  clear ci cr cm cd cu cp cw1 cw2 hs h hw e1 hoa hob hoc hod ha hb hc hd hk1 hk2 hk3 hk4 hk5 hk6 hsw hk0 hem hms hdl hnl hm hmn hnw hro hev hsm hsm2 hsb hrl htx htx2 hll hz1 hsn hxx hz8 hz2 hhf hy hyb
  go_enter Tryz.func12, Tryz.ntmps12
  have d0 := Cells.new w #[.int .u32 oa, .int .u16 ob, .int .u32 oc, .int .u16 od] 39
  replace d0 := Cells.below (fresh_below (w.alloc (.cells #[.int .u32 oa, .int .u16 ob, .int .u32 oc, .int .u16 od] 39)) (.cells #[.int .u32 a, .int .u16 b, .int .u32 c, .int .u16 d] 39)) d0
  have d1 := Cells.new (w.alloc (.cells #[.int .u32 oa, .int .u16 ob, .int .u32 oc, .int .u16 od] 39)) #[.int .u32 a, .int .u16 b, .int .u32 c, .int .u16 d] 39
  have l0 : Below w.heap.size w ((w.alloc (.cells #[.int .u32 oa, .int .u16 ob, .int .u32 oc, .int .u16 od] 39)).alloc (.cells #[.int .u32 a, .int .u16 b, .int .u32 c, .int .u16 d] 39)) := (bstep (fresh_below _ _) (fresh_below _ _))
  simp only [World.size_alloc] at d1
  have L0 := hide l0; have D0 := hide d0; have D1 := hide d1
  clear l0 d0 d1
  go_upto_region 1 with fail
  have l0 := L0.out; have d0 := D0.out; have d1 := D1.out
  clear L0 D0 D1
  generalize ((w.alloc (.cells #[.int .u32 oa, .int .u16 ob, .int .u32 oc, .int .u16 od] 39)).alloc (.cells #[.int .u32 a, .int .u16 b, .int .u32 c, .int .u16 d] 39)) = w1 at *
  obtain ⟨qd0_0, qd0_1, qd0_2, qd0_3⟩ := d0.q4
  obtain ⟨qd1_0, qd1_1, qd1_2, qd1_3⟩ := d1.q4
  have bb : Below w1.heap.size w1 w1 := Below.refl _ _
  have L0 := hide l0; have D0 := hide d0; have D1 := hide d1
  clear l0 d0 d1
  go_upto_region 4 with (go_at_call 10; (with_reducible refine (CI.out _).mono ?_); rintro e w2 ⟨rfl, b2⟩)
  have bz := bstep (bstep bb b2) (fresh_below w2 (.cells #[.int .u8 tt.p, .int .u32 tt.a, .int .u16 tt.b, .int .u32 tt.c, .int .u16 tt.d] 33))
  clear b2
  generalize (w2.alloc (.cells #[.int .u8 tt.p, .int .u32 tt.a, .int .u16 tt.b, .int .u32 tt.c, .int .u16 tt.d] 33)) = w3 at *
  go_upto_region 8 with (first | (go_at_call 35; (with_reducible refine (CR.out _).mono ?_); rintro e w4 ⟨rfl, b4⟩) | (go_at_call 29; (with_reducible refine (CM.out _).mono ?_); rintro e w5 ⟨rfl, b5⟩))
  have n6 := Cells.new w5 #[.int .u8 m.t, .int .u8 m.c, .int .u16 m.n, .string m.r, .string dt] 80
  have b6 := bstep (bstep (bstep bz b4) b5) (fresh_below w5 (.cells #[.int .u8 m.t, .int .u8 m.c, .int .u16 m.n, .string m.r, .string dt] 80))
  clear bz b4 b5
  generalize w5.heap.size = g5 at n6 ⊢
  generalize (w5.alloc (.cells #[.int .u8 m.t, .int .u8 m.c, .int .u16 m.n, .string m.r, .string dt] 80)) = w6 at *
  have qn6_2 : ∀ W', Below w6.heap.size w6 W' → World.cell? W' ⟨g5, 2, none⟩ = some (.int .u16 m.n) := fun W' h => Cells.at_ (Cells.below h n6) 2
  have qn6_4 : ∀ W', Below w6.heap.size w6 W' → World.cell? W' ⟨g5, 4, none⟩ = some (.string dt) := fun W' h => Cells.at_ (Cells.below h n6) 4
  have cc := Below.refl w6.heap.size w6
  clear n6
  go_upto_region 10 with (go_at_call 36; (with_reducible refine (CD.out _).mono ?_); rintro e w7 ⟨rfl, b7⟩)
  have sA := Below.drew b7
  focus
    refine wp_region_J [] (fun W => Below w6.heap.size w6 W) (by kernel_rfl) (sA) (fun hS0 => ?_)
    refine tJ 0 rfl hS0 ?_
    (try simp only [Act.put, putS])
    refine tJ 1 rfl hS0 ?_
    (try simp only [Act.put, putS])
    refine tJ 2 rfl hS0 ?_
    (try simp only [Act.put, putS])
    refine tJ 3 rfl hS0 ?_
    (try simp only [Act.put, putS])
    refine tJ 4 rfl hS0 ?_
    (try simp only [Act.put, putS])
    refine tJ 5 rfl hS0 ?_
    (try simp only [Act.put, putS])
    refine tJ 6 rfl hS0 ?_
    (try simp only [Act.put, putS])
    refine tJ 7 rfl hS0 ?_
    (try simp only [Act.put, putS])
    refine tJ 8 rfl hS0 ?_
    (try simp only [Act.put, putS])
    refine rJ [9] ?_
    refine (AllReadyJ.cons rfl (fun K hK => ?_) AllReadyJ.nil)
    rw [if_pos (by kernel_rfl)]
    (try simp only [putG])
    (focus go_simp)
    (focus ((with_reducible refine (CU.out _).mono ?_); rintro e w8 ⟨rfl, ba⟩; have sq := bstep hS0 ba))
    (focus (try go_wp2_with fail))
    refine hK.out _ _ ?hs (fun hS0 => ?_)
    case hs => (first | with_reducible exact hS0 | with_reducible exact sq)
    clear hK K
    (try simp only [Act.put, putS])
    refine tJ 10 rfl hS0 ?_
    (try simp only [Act.put, putS])
    refine wpAnyJ_done (by kernel_rfl) ?_ _
  clear sA sq ba b7
  go_wp2_with (first | (go_at_call 39; (with_reducible refine (CP.out _).mono ?_); rintro e w9 ⟨rfl, b9⟩) | (go_at_call 38; (first | (with_reducible refine (CW1.out _).mono ?_) | (with_reducible refine (CW2.out _).mono ?_)); rintro e wX ⟨rfl, bX⟩))
  go_ret2
  refine ⟨rfl, ?_⟩
  have l1 := bstep (bstep L0.out b6) hS0
  have l2 := bstep l1 b9
  first | exact bstep (bstep l2 (by assumption)) bX | exact bstep l2 bX
end Go.Proofs.YtjeaknipmdfkdaaGreatDoor
end

section
/- EmbedsTell walked. -/
set_option linter.unusedVariables false
namespace Go.Proofs.YtjeaknipmdfkdaaGreatDoor
open Go.RowKit
attribute [local go_sem] Oper.semAt_some

set_option maxRecDepth 100000 in
set_option maxHeartbeats 8000000 in
theorem EmbedsTell_walk (s : ByteArray) (oa ob oc od a b c d : Int) (w : World) (T0 : Tabs w) (hs : s.size ≤ 140737488351232) (hoa : 0 ≤ oa ∧ oa ≤ 4294967295) (hob : 0 ≤ ob ∧ ob ≤ 65535) (hoc : 0 ≤ oc ∧ oc ≤ 4294967295) (hod : 0 ≤ od ∧ od ≤ 65535) (ha : 0 ≤ a ∧ a ≤ 4294967295) (hb : 0 ≤ b ∧ b ≤ 65535) (hc : 0 ≤ c ∧ c ≤ 4294967295) (hd : 0 ≤ d ∧ d ≤ 65535) :
    Calls Tryz.prog 3 #[.string s, .agg #[.int .u32 oa, .int .u16 ob, .int .u32 oc, .int .u16 od, .int .u32 a, .int .u16 b, .int .u32 c, .int .u16 d]] w (Ret (.bool true) w) := by
  have p1 := fun W K => e_Inner W s K hs
  have p2 := fun W => rd_Inner s W hs
  have p3 := fun W K => e_Translate oa ob oc od a b c d s W K hoa hob hoc hod ha hb hc hd hs
  have p4 := fun W => rd_Translate oa ob oc od a b c d s W hoa hob hoc hod ha hb hc hd hs
  have p5 := fun W T => tolds W T
  generalize trOut s oa ob oc od a b c d = uu at p3 p4
  generalize trWhy s = rr at p3 p4
  generalize inTup s = tt at p1 p2
  generalize emsWhy s = qq at p1 p2
  obtain ⟨t0, t1, t2, t3, t4⟩ := tt
  simp only at p1 p2
  have P1 := hide p1; have P2 := hide p2; have P3 := hide p3; have P4 := hide p4; have P5 := hide p5; have TT := hide T0; have KK := hide (show Kinds w from And.left T0)
  clear p1 p2 p3 p4 p5 T0 hoa hob hoc hod ha hb hc hd
  by_cases hl : (2500 : Int) < (s.size : Int)
  · go_enter Tryz.func3, Tryz.ntmps3
    go_wp2_with fail
    (with_reducible refine (P5.out _ (TT.out.below (fresh_below _ _))).mono ?_)
    rintro e w1 ⟨rfl, b1⟩
    replace b1 := bstep (fresh_below _ _) b1
    go_wp2_with fail
    go_ret
    exact ⟨rfl, b1⟩
  · go_enter Tryz.func3, Tryz.ntmps3
    have d0 := Cells.new w #[.int .u32 oa, .int .u16 ob, .int .u32 oc, .int .u16 od, .int .u32 a, .int .u16 b, .int .u32 c, .int .u16 d] 30
    have l0 : Below w.heap.size w (w.alloc (.cells #[.int .u32 oa, .int .u16 ob, .int .u32 oc, .int .u16 od, .int .u32 a, .int .u16 b, .int .u32 c, .int .u16 d] 30)) := (fresh_below _ _)
    have L0 := hide l0; have D0 := hide d0
    clear l0 d0
    go_upto_region 1 with fail
    have l0 := L0.out; have d0 := D0.out
    clear L0 D0
    generalize (w.alloc (.cells #[.int .u32 oa, .int .u16 ob, .int .u32 oc, .int .u16 od, .int .u32 a, .int .u16 b, .int .u32 c, .int .u16 d] 30)) = wa at *
    obtain ⟨qd0_0, qd0_1, qd0_2, qd0_3, qd0_4, qd0_5, qd0_6, qd0_7⟩ := d0.q8
    have bb : Below wa.heap.size wa wa := Below.refl _ _
    have L0 := hide l0; have D0 := hide d0
    clear l0 d0
    clear bb qd0_0 qd0_1 qd0_2 qd0_3 qd0_4 qd0_5 qd0_6 qd0_7
    go_upto_region 4 with (go_at_call 9; (with_reducible refine (P1.out _ (KK.out.below L0.out)).mono ?_); rintro e2 w2 ⟨rfl, b2⟩)
    have nn := Cells.new w2 #[.int .u8 t0, .int .u32 t1, .int .u16 t2, .int .u32 t3, .int .u16 t4] 33
    have bn : Below wa.heap.size wa (w2.alloc (.cells #[.int .u8 t0, .int .u32 t1, .int .u16 t2, .int .u32 t3, .int .u16 t4] 33)) := bstep b2 (fresh_below _ _)
    replace D0 := hide (Cells.below bn D0.out)
    replace L0 := hide (bstep L0.out bn)
    clear bn b2
    generalize w2.heap.size = g5 at nn ⊢
    generalize (w2.alloc (.cells #[.int .u8 t0, .int .u32 t1, .int .u16 t2, .int .u32 t3, .int .u16 t4] 33)) = wb at *
    have kg5 := Cells.lt nn
    have D5 := hide nn
    clear nn
    go_upto_region 5 with (go_at_call 10; (with_reducible refine (P2.out _).mono ?_); rintro e2 w2 ⟨rfl, b2⟩)
    have nn := Cells.new w2 #[.int .u8 t0, .int .u32 t1, .int .u16 t2, .int .u32 t3, .int .u16 t4] 33
    have bn : Below wb.heap.size wb (w2.alloc (.cells #[.int .u8 t0, .int .u32 t1, .int .u16 t2, .int .u32 t3, .int .u16 t4] 33)) := bstep b2 (fresh_below _ _)
    replace D0 := hide (Cells.below bn D0.out)
    replace D5 := hide (Cells.below bn D5.out)
    replace L0 := hide (bstep L0.out bn)
    clear bn b2
    generalize w2.heap.size = g6 at nn ⊢
    generalize (w2.alloc (.cells #[.int .u8 t0, .int .u32 t1, .int .u16 t2, .int .u32 t3, .int .u16 t4] 33)) = wc at *
    have kg6 := Cells.lt nn
    have D6 := hide nn
    clear nn
    have ud0 := D0.out
    obtain ⟨xud0_0, xud0_1, xud0_2, xud0_3, xud0_4, xud0_5, xud0_6, xud0_7⟩ := ud0.x8
    clear ud0
    go_upto_region 6 with (go_at_call 11; (with_reducible refine (P3.out _ (KK.out.below L0.out)).mono ?_); rintro e2 w2 ⟨rfl, b2⟩)
    clear xud0_0 xud0_1 xud0_2 xud0_3 xud0_4 xud0_5 xud0_6 xud0_7
    have bn := b2
    replace D0 := hide (Cells.below bn D0.out)
    replace D5 := hide (Cells.below bn D5.out)
    replace D6 := hide (Cells.below bn D6.out)
    replace L0 := hide (bstep L0.out bn)
    clear bn b2
    generalize w2 = wd at *
    have ud0 := D0.out
    obtain ⟨xud0_0, xud0_1, xud0_2, xud0_3, xud0_4, xud0_5, xud0_6, xud0_7⟩ := ud0.x8
    clear ud0
    go_upto_region 7 with (go_at_call 12; (with_reducible refine (P4.out _).mono ?_); rintro e2 w2 ⟨rfl, b2⟩)
    clear xud0_0 xud0_1 xud0_2 xud0_3 xud0_4 xud0_5 xud0_6 xud0_7
    have bn := b2
    replace D5 := hide (Cells.below bn D5.out)
    replace D6 := hide (Cells.below bn D6.out)
    replace L0 := hide (bstep L0.out bn)
    clear bn b2
    generalize w2 = we at *
    have u5 := D5.out; have u6 := D6.out
    obtain ⟨xu5_0, xu5_1, xu5_2, xu5_3, xu5_4⟩ := u5.x5
    obtain ⟨xu6_0, xu6_1, xu6_2, xu6_3, xu6_4⟩ := u6.x5
    clear u5 u6
    go_wp2_with fail
    (with_reducible refine (P5.out _ (TT.out.below L0.out)).mono ?_)
    rintro e w1 ⟨rfl, b1⟩
    go_wp2_with fail
    go_ret
    exact ⟨rfl, bstep L0.out b1⟩
end Go.Proofs.YtjeaknipmdfkdaaGreatDoor
end
