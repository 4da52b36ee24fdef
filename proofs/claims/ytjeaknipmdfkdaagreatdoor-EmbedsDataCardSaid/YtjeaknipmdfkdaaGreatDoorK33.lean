/- Several texts of this claim, one behind the other. -/
import Derived.Test.YtjeaknipmdfkdaaGreatDoorK24
import Derived.Test.YtjeaknipmdfkdaaGreatDoorK32
import Derived.Test.YtjeaknipmdfkdaaGreatDoorK2

section
/- The document's Data is the program's: a plain law. -/
set_option linter.unusedVariables false
set_option linter.unusedSimpArgs false
namespace Go.Proofs.YtjeaknipmdfkdaaGreatDoor
open Go.RowKit

theorem lay_app {a p : List UInt8} {k : Nat} {n : Int} (h : k + 2 ≤ a.length) : lay (a ++ p) k n = lay a k n ++ p := by
  unfold lay
  rw [List.take_append_of_le_length (by omega), List.drop_append_of_le_length (by omega)]
  simp only [List.append_assoc]
theorem em_split {l : List UInt8} {e : Nat} (h : 20 ≤ e) (h2 : e ≤ l.length) (a c : Int) : l.take 12 ++ (ipsOf a c ++ l.drop 20) = ((l.take e).take 12 ++ (ipsOf a c ++ (l.take e).drop 20)) ++ l.drop e := by
  have h3 : (l.take e).take 12 = l.take 12 := by rw [List.take_take]; congr 1; omega
  have h4 : l.drop 20 = (l.take e).drop 20 ++ l.drop e := by
    conv => lhs; rw [← List.take_append_drop e l]
    rw [List.drop_append_of_le_length (by rw [List.length_take]; omega)]
  rw [h3, h4]
  simp only [List.append_assoc]
theorem dtHd_len {l : List UInt8} (a c : Int) (h : 20 ≤ emAt l) (h2 : emAt l ≤ l.length) : (dtHd l a c).length = emAt l := by
  unfold dtHd
  simp only [List.length_append, List.length_take, List.length_drop, ipsOf_len]; omega
theorem dtSum_is {l : List UInt8} (a c : Int) (h : 20 ≤ emAt l) (h2 : emAt l ≤ l.length) : dtSum l a c = updates (be16 l 10) ((l.drop 12).take 8) (ipsOf a c) := by
  unfold dtSum dtHd
  have h3 : ((l.take (emAt l)).take 12).length = 12 := by simp only [List.length_take]; omega
  have h5 : ((l.take (emAt l)).take 12).drop 12 = [] := List.drop_eq_nil_of_le (by omega)
  rw [List.drop_append_of_le_length (by omega), h5, List.nil_append, List.take_append_of_le_length (Nat.le_of_eq (ipsOf_len a c).symm), List.take_of_length_le (Nat.le_of_eq (ipsOf_len a c))]
theorem emMid_is {l : List UInt8} (a c : Int) (h : 20 ≤ emAt l) (h2 : emAt l ≤ l.length) : emMid l a c = lay (dtHd l a c) 10 (dtSum l a c) ++ l.drop (emAt l) := by
  unfold emMid
  rw [em_split h h2, ← dtSum_is a c h h2]
  exact lay_app (by have := dtHd_len (l := l) a c h h2; unfold dtHd at this; omega)
theorem be16_app {a p : List UInt8} {k j : Nat} (h : k = a.length + j) : be16 (a ++ p) k = be16 p j := by
  have : p = (a ++ p).drop a.length := by rw [List.drop_append_of_le_length (Nat.le_refl _), List.drop_length, List.nil_append]
  rw [h]
  conv => rhs; rw [this]
  rw [be16_drop]
theorem emFlowL_app {G P : List UInt8} {e : Nat} (h : G.length = e) (b d : Int) : emFlowL (G ++ P) e b d = G ++ (putW [b, d] ++ P.drop 4) := by
  unfold emFlowL
  rw [List.take_append_of_le_length (by omega), List.take_of_length_le (by omega), List.drop_append, List.drop_eq_nil_of_le (by omega), List.nil_append, show e + 4 - G.length = 4 from by omega]
theorem emFlow_app {G P : List UInt8} {e : Nat} {t : Tup} {ips : List UInt8} (a b c d : Int) {k : Nat} (h : G.length = e) (hk : 4 ≤ k) (hp : (t.p = 17 ∧ k = 6) ∨ (t.p = 6 ∧ k = 16)) (hP : k + 2 ≤ P.length) (hi : ipsOf t.a t.c = ips) (h4 : putW [t.b, t.d] = P.take 4) :
    emFlow (G ++ P) e t a b c d k = G ++ flowNew P ips a b c d k := by
  have hl : (putW [b, d] ++ P.drop 4).length = P.length := by simp only [List.length_append, List.length_drop, putW2_len]; omega
  have hw : get16 (emFlowL (G ++ P) e b d) ((e + k : Nat) : Int) = be16 P k := by
    rw [emFlowL_app h, get16_nat (by rw [List.length_append, hl]; omega), be16_app (j := k) (by omega), be16_app (a := putW [b, d]) (j := k - 4) (by rw [putW2_len]; omega), be16_drop]
    congr 1; omega
  have hx : be16 (putW [b, d] ++ P.drop 4) k = be16 P k := by
    rw [be16_app (a := putW [b, d]) (j := k - 4) (by rw [putW2_len]; omega), be16_drop]
    congr 1; omega
  have hn : emFlowN (G ++ P) e t a b c d k = flowSum P ips a b c d k := by unfold emFlowN flowSum; rw [hw, hi, h4]
  unfold emFlow flowNew
  rw [hw, hn, emFlowL_app h, app_lay (k := e + k) (by omega)]
  have hlen : e + k + 2 ≤ (G ++ P).length := by rw [List.length_append]; omega
  rw [if_pos hlen]
  rcases hp with ⟨hp, rfl⟩ | ⟨hp, rfl⟩
  · by_cases hz : be16 P 6 = 0
    · rw [if_pos ⟨hp, hz⟩]
      unfold flowFix
      rw [if_pos rfl, if_pos hz, ← app_lay (k := e + 6) (j := 6) (by omega), ← hz, ← hx, lay_self (by rw [hl]; omega)]
    · rw [if_neg (fun h => hz h.2)]
      unfold flowFix
      rw [if_pos rfl, if_neg hz]
      by_cases hn0 : flowSum P ips a b c d 6 = 0
      · rw [if_pos ⟨hp, hn0⟩, if_pos hn0]
      · rw [if_neg (fun h => hn0 h.2), if_neg hn0]
  · rw [if_neg (fun h => by omega), if_neg (fun h => by omega)]
    unfold flowFix
    rw [if_neg (by decide)]
theorem emMsg_app {G P : List UInt8} {e : Nat} (id : Int) (h : G.length = e) (hP : 8 ≤ P.length) : emMsgN (G ++ P) e id = G ++ queryOf P id := by
  unfold emMsgN queryOf
  rw [be16_app (j := 2) (by omega), be16_app (j := 4) (by omega), ← app_lay (k := e + 4) (j := 4) (by omega), ← app_lay (k := e + 2) (j := 2) (by omega)]
theorem dtOf_em {l : List UInt8} (hem : emWhy l = 0) (a b c d : Int) : dtOf l a b c d = emNew l a b c d := by
  obtain ⟨p1, p2, p3, _, _, p6⟩ := emWhy_parts hem
  have hm := emMid_is (l := l) a c p1 (by omega)
  have hG : (lay (dtHd l a c) 10 (dtSum l a c)).length = emAt l := by rw [lay_length (by rw [dtHd_len a c p1 (by omega)]; omega), dtHd_len a c p1 (by omega)]
  have hP : 8 ≤ (l.drop (emAt l)).length := by rw [List.length_drop]; omega
  have hd : dtOf l a b c d = lay (dtHd l a c) 10 (dtSum l a c) ++ crOf (l.drop (emAt l)) ((l.drop 12).take 8) (emTup l).p (emAsk l) a b c d := by
    unfold dtOf lay
    simp only [List.append_assoc]
  rw [hd]
  unfold emNew emCh
  rw [hm]
  generalize lay (dtHd l a c) 10 (dtSum l a c) = G at *
  rw [emTup_p]
  have hflow : at_ l 9 = 6 ∨ at_ l 9 = 17 → ipsOf (emTup l).a (emTup l).c = (l.drop 12).take 8 ∧ putW [(emTup l).b, (emTup l).d] = (l.drop (emAt l)).take 4 := by
    intro h
    unfold emTup
    rw [if_pos h]
    refine ⟨ips_self (by omega), ?_⟩
    have h1 := ports_self (l := l.drop (emAt l)) (by omega)
    rw [be16_drop, be16_drop, Nat.add_zero] at h1
    have h2 := congrArg (List.take 4) h1
    rw [List.take_append_of_le_length (Nat.le_of_eq (putW2_len _ _).symm), List.take_of_length_le (Nat.le_of_eq (putW2_len _ _))] at h2
    exact h2
  unfold crOf
  by_cases h6 : at_ l 9 = 6
  · rw [if_pos h6, if_neg (by omega)]
    obtain ⟨q1, q2⟩ := hflow (Or.inl h6)
    by_cases h18 : 18 ≤ (l.drop (emAt l)).length
    · rw [if_pos ⟨h6, h18⟩, if_pos h6]
      exact (emFlow_app a b c d hG (by decide) (Or.inr ⟨by rw [emTup_p]; exact h6, rfl⟩) (by omega) q1 q2).symm
    · rw [if_neg (fun h => h18 h.2), if_pos h6]
      unfold emFlow
      rw [if_neg (fun h => by have := h.1; rw [emTup_p] at this; omega), if_neg (by rw [List.length_append]; omega), emFlowL_app hG]
  · rw [if_neg h6]
    by_cases h17 : at_ l 9 = 17
    · rw [if_pos h17, if_pos h17, if_neg h6]
      obtain ⟨q1, q2⟩ := hflow (Or.inr h17)
      exact (emFlow_app a b c d hG (by decide) (Or.inl ⟨by rw [emTup_p]; exact h17, rfl⟩) (by omega) q1 q2).symm
    · rw [if_neg h17, if_neg h17, if_neg (fun h => h6 h.1), if_neg h6]
      exact (emMsg_app _ hG hP).symm
end Go.Proofs.YtjeaknipmdfkdaaGreatDoor
end

section
/- porterref10.Inner: the document. -/
set_option linter.unusedVariables false
set_option linter.unusedSimpArgs false
namespace Go.Proofs.YtjeaknipmdfkdaaGreatDoor
open Go.RowKit
attribute [local go_sem] Oper.semAt_some envL lookV

theorem look_in {s : ByteArray} (h : msWhy s = 0) : ∃ (E : Int) (q : Bool), lkOf (L (emData s)) = .agg #[.int .i64 E, .int .u8 (inTup s).p, .int .u32 (inTup s).a, .int .u16 (inTup s).b, .int .u32 (inTup s).c, .int .u16 (inTup s).d, .bool q, .int .i64 (emsWhy s)] := by
  have he : emsWhy s = emWhy (L (emData s)) := by rw [ems_ms, if_neg (by omega)]
  unfold lkOf inTup
  rw [he]
  by_cases hz : emWhy (L (emData s)) = 0
  · rw [if_pos hz, if_pos hz, hz]
    exact ⟨_, _, rfl⟩
  · rw [if_neg hz, if_neg hz]
    exact ⟨0, false, rfl⟩
set_option maxRecDepth 100000 in
set_option maxHeartbeats 8000000 in
theorem rd_Inner (s : ByteArray) (w : World) (hs : s.size ≤ 140737488351232) :
    Calls Tryz.prog 10 #[.string s] w (Ret (.tuple #[.agg #[.int .u8 (inTup s).p, .int .u32 (inTup s).a, .int .u16 (inTup s).b, .int .u32 (inTup s).c, .int .u16 (inTup s).d], .int .i64 (emsWhy s)]) w) := by
  have cm := fun W => rd_message s W hs
  by_cases h : msWhy s = 0
  rotate_left 1
  · have e1 : emsWhy s = msWhy s := by rw [ems_ms, if_pos h]
    have e2 : inTup s = ⟨0, 0, 0, 0, 0⟩ := by unfold inTup; rw [e1, if_neg h]
    rw [e1, e2]
    have hr : (msWhy s != 0) = true := by simpa using h
    generalize msWhy s = r at *
    generalize msOf s = m at *
    have CM := hide cm
    clear cm h e1 e2 hs
    go_enter Tryz.func10, Tryz.ntmps10
    have d0 := Cells.new w #[.int .u8 0, .int .u32 0, .int .u16 0, .int .u32 0, .int .u16 0] 33
    have bn := fresh_below w (.cells #[.int .u8 0, .int .u32 0, .int .u16 0, .int .u32 0, .int .u16 0] 33)
    have D0 := hide d0; have BN := hide bn
    clear d0 bn
    go_upto_region 1 with fail
    generalize (w.alloc (.cells #[.int .u8 0, .int .u32 0, .int .u16 0, .int .u32 0, .int .u16 0] 33)) = w1 at *
    go_upto_region 3 with (go_at_call 29; (with_reducible refine (CM.out _).mono ?_); rintro e w2 ⟨rfl, b2⟩)
    have bz := bstep b2 (fresh_below w2 (.cells #[.int .u8 m.t, .int .u8 m.c, .int .u16 m.n, .string m.r, .string m.d] 80))
    have HZ := hide (Cells.below bz D0.out); have LW := hide (bstep BN.out bz)
    clear bz b2 D0 BN hr CM
    generalize (w2.alloc (.cells #[.int .u8 m.t, .int .u8 m.c, .int .u16 m.n, .string m.r, .string m.d] 80)) = w3 at *
    refine wp_region_lit ?_
    refine wpList_plain rfl fun K hK => ?_; go_simp; refine hK _ _ ?_; clear hK K
    refine wpList_plain rfl fun K hK => ?_; go_simp; refine hK _ _ ?_; clear hK K
    refine wpList_store_all rfl 33 (.tmp 2) (.tmp 14) rfl (c' := #[.int .u8 0, .int .u32 0, .int .u16 0, .int .u32 0, .int .u16 0]) HZ.out (by rfl) (by rfl) (by kernel_rfl) rfl (by simp [Value.oneCell']) ?_
    intro W5 r5 o5 z5
    go_wp2_with fail
    (try simp only [Exit.inBlock, Exit.then])
    refine bodyPost_ret (res_cell_tmp Tryz.results10 r5 (by rfl) (by rfl) _ Tryz.underlying33 rfl (by kernel_rfl)) rfl ?_
    exact ⟨rfl, LW.out.trans (o5.below (fun j e => by omega) LW.out.size)⟩
  obtain ⟨E, q, hlk⟩ := look_in h
  have hk3 : seenWhy s = 0 ∧ (seenOf s).k = 3 := by
    unfold msWhy at h
    by_cases h1 : seenWhy s = 0
    · rw [if_neg (by omega)] at h
      by_cases h2 : (seenOf s).k = 3
      · exact ⟨h1, h2⟩
      · rw [if_pos h2] at h; omega
    · rw [if_pos h1] at h; omega
  obtain ⟨H, P, R, hsw, hw, _, _, _, hrest, _, hp8, _, _⟩ := err_whole hk3.1 hk3.2
  have hdz : (emData s).size ≤ 140737488351232 := by rw [(emData_of hrest).1, S_size, List.length_drop]; have := hw.big; omega
  have cl := fun W => rd_Look (emData s) W hdz
  rw [hlk] at cl
  have hmo : msOf s = msgOf (ipRest s) := by unfold msOf; rw [if_pos h]
  rw [hmo, show (msgOf (ipRest s)).d = emData s from rfl, h] at cm
  obtain ⟨m, hm⟩ : ∃ m, m = msgOf (ipRest s) := ⟨_, rfl⟩
  rw [← hm] at cm
  generalize emData s = dt at *
  generalize emsWhy s = r at *
  generalize inTup s = t at *
  have CM := hide cm; have CL := hide cl
  clear cm cl h hs hlk hk3 hsw hw hrest hp8 hdz hmo hm
  go_enter Tryz.func10, Tryz.ntmps10
  have d0 := Cells.new w #[.int .u8 0, .int .u32 0, .int .u16 0, .int .u32 0, .int .u16 0] 33
  have bn := fresh_below w (.cells #[.int .u8 0, .int .u32 0, .int .u16 0, .int .u32 0, .int .u16 0] 33)
  have D0 := hide d0; have BN := hide bn
  clear d0 bn
  go_upto_region 1 with fail
  generalize (w.alloc (.cells #[.int .u8 0, .int .u32 0, .int .u16 0, .int .u32 0, .int .u16 0] 33)) = w1 at *
  go_upto_region 2 with (go_at_call 29; (with_reducible refine (CM.out _).mono ?_); rintro e w2 ⟨rfl, b2⟩)
  have bz := bstep b2 (fresh_below w2 (.cells #[.int .u8 m.t, .int .u8 m.c, .int .u16 m.n, .string m.r, .string dt] 80))
  have nn := Cells.new w2 #[.int .u8 m.t, .int .u8 m.c, .int .u16 m.n, .string m.r, .string dt] 80
  have y4 := nn.at_ 4
  have HZ := hide (Cells.below bz D0.out); have LW := hide (bstep BN.out bz)
  clear bz b2 nn D0 BN CM
  generalize (w2.alloc (.cells #[.int .u8 m.t, .int .u8 m.c, .int .u16 m.n, .string m.r, .string dt] 80)) = w3 at *
  go_upto_region 5 with (go_at_call 30; (with_reducible refine (CL.out _).mono ?_); rintro e w4 ⟨rfl, b4⟩)
  have hlt : w.heap.size < w4.heap.size := Cells.lt (Cells.below b4 HZ.out)
  have bz := bstep b4 (fresh_below w4 (.cells #[.int .i64 E, .int .u8 t.p, .int .u32 t.a, .int .u16 t.b, .int .u32 t.c, .int .u16 t.d, .bool q, .int .i64 r] 84))
  have n5 := Cells.new w4 #[.int .i64 E, .int .u8 t.p, .int .u32 t.a, .int .u16 t.b, .int .u32 t.c, .int .u16 t.d, .bool q, .int .i64 r] 84
  replace HZ := hide (Cells.below bz HZ.out); replace LW := hide (bstep LW.out bz)
  generalize w4.heap.size = g4 at n5 hlt ⊢
  generalize (w4.alloc (.cells #[.int .i64 E, .int .u8 t.p, .int .u32 t.a, .int .u16 t.b, .int .u32 t.c, .int .u16 t.d, .bool q, .int .i64 r] 84)) = w6 at *
  have N5 := hide n5
  have sO : Only (fun i => i = w.heap.size) w6 w6.drew := Only.of_below (Below.drew (Below.refl _ _)) (Nat.le_refl _)
  have u1 : ∀ W', Only (fun i => i = w.heap.size) w6 W' → W'.cell? ⟨g4, 1, none⟩ = some (.int .u8 t.p) := fun W' h => (Cells.only N5.out h (by omega)).at_ 1
  have u2 : ∀ W', Only (fun i => i = w.heap.size) w6 W' → W'.cell? ⟨g4, 2, none⟩ = some (.int .u32 t.a) := fun W' h => (Cells.only N5.out h (by omega)).at_ 2
  have u3 : ∀ W', Only (fun i => i = w.heap.size) w6 W' → W'.cell? ⟨g4, 3, none⟩ = some (.int .u16 t.b) := fun W' h => (Cells.only N5.out h (by omega)).at_ 3
  have u4 : ∀ W', Only (fun i => i = w.heap.size) w6 W' → W'.cell? ⟨g4, 4, none⟩ = some (.int .u32 t.c) := fun W' h => (Cells.only N5.out h (by omega)).at_ 4
  have u5 : ∀ W', Only (fun i => i = w.heap.size) w6 W' → W'.cell? ⟨g4, 5, none⟩ = some (.int .u16 t.d) := fun W' h => (Cells.only N5.out h (by omega)).at_ 5
  have u7 : ∀ W', Only (fun i => i = w.heap.size) w6 W' → W'.cell? ⟨g4, 7, none⟩ = some (.int .i64 r) := fun W' h => (Cells.only N5.out h (by omega)).at_ 7
  clear bz n5 y4
  focus
    refine wp_region_J [] (fun W => Only (fun i => i = w.heap.size) w6 W) (by kernel_rfl) (sO) (fun hS0 => ?_)
    refine wpAnyJ_take (i := 0) (v := ?v0_1) rfl (by kernel_rfl) (by kernel_rfl) (by kernel_rfl) (by kernel_rfl) (fun _ _ _ h => h) (Or.inl (And.intro (by kernel_rfl) ?q0_1)) hS0 ?r0_1; (case q0_1 => (intro wx hx; (try dsimp only); (try go_simp); (try with_reducible rfl)))
    (try simp only [Act.put, putS])
    refine wpAnyJ_take (i := 1) (v := ?v1_2) rfl (by kernel_rfl) (by kernel_rfl) (by kernel_rfl) (by kernel_rfl) (fun _ _ _ h => h) (Or.inl (And.intro (by kernel_rfl) ?q1_2)) hS0 ?r1_2; (case q1_2 => (intro wx hx; (try dsimp only); (try go_simp); (try with_reducible rfl)))
    (try simp only [Act.put, putS])
    refine wpAnyJ_take (i := 2) (v := ?v2_3) rfl (by kernel_rfl) (by kernel_rfl) (by kernel_rfl) (by kernel_rfl) (fun _ _ _ h => h) (Or.inl (And.intro (by kernel_rfl) ?q2_3)) hS0 ?r2_3; (case q2_3 => (intro wx hx; (try dsimp only); (try go_simp); (try with_reducible rfl)))
    (try simp only [Act.put, putS])
    refine wpAnyJ_take (i := 3) (v := ?v3_4) rfl (by kernel_rfl) (by kernel_rfl) (by kernel_rfl) (by kernel_rfl) (fun _ _ _ h => h) (Or.inl (And.intro (by kernel_rfl) ?q3_4)) hS0 ?r3_4; (case q3_4 => (intro wx hx; (try dsimp only); (try go_simp); (try with_reducible rfl)))
    (try simp only [Act.put, putS])
    refine rJ [4] ?_
    refine (AllReadyJ.cons rfl (fun K hK => ?_) AllReadyJ.nil)
    (focus (rw [if_pos (by kernel_rfl)]; (try simp only [putG]); refine wp_store_all 33 (.tmp 2) (.tmp 20) rfl (c' := #[.int .u8 t.p, .int .u32 t.a, .int .u16 t.b, .int .u32 t.c, .int .u16 t.d]) HZ.out.drew (by rfl) (by rfl) (by kernel_rfl) rfl (by simp [Value.oneCell']) ?_; intro W5 r5 o5 z5))
    (focus (try go_wp2_with fail))
    refine hK.out _ _ ?hs (fun hS0 => ?_)
    case hs => (first | with_reducible exact hS0 | exact Only.trans hS0 o5)
    clear hK K
    (try simp only [Act.put, putS])
    refine wpAnyJ_take (i := 5) (v := ?v5_5) rfl (by kernel_rfl) (by kernel_rfl) (by kernel_rfl) (by kernel_rfl) (fun _ _ _ h => h) (Or.inl (And.intro (by kernel_rfl) ?q5_5)) hS0 ?r5_5; (case q5_5 => (intro wx hx; (try dsimp only); (try go_simp); (try with_reducible rfl)))
    (try simp only [Act.put, putS])
    refine wpAnyJ_done (by kernel_rfl) ?_ _
  all_goals
    have HC := hide r5; have HS := hide hS0
    clear r5 o5 z5 u1 u2 u3 u4 u5 u7
    go_wp2_with fail
    (try simp only [Exit.inBlock, Exit.then])
    refine bodyPost_ret (res_cell_tmp Tryz.results10 HC.out (by rfl) (by rfl) _ Tryz.underlying33 rfl (by kernel_rfl)) rfl ?_
    exact ⟨rfl, LW.out.trans (HS.out.below (fun j e => by omega) LW.out.size)⟩
end Go.Proofs.YtjeaknipmdfkdaaGreatDoor
end

section
/- porterref10.carried: the document. -/
set_option linter.unusedVariables false
set_option linter.unusedSimpArgs false
namespace Go.Proofs.YtjeaknipmdfkdaaGreatDoor
open Go.RowKit
attribute [local go_sem] Oper.semAt_some envL lookV

set_option maxRecDepth 100000 in
set_option maxHeartbeats 16000000 in
theorem rd_carried (l ips : ByteArray) (E R : Int) (t : Tup) (q : Bool) (a b c d : Int) (w : World) (ha : 0 ≤ a ∧ a ≤ 4294967295) (hb : 0 ≤ b ∧ b ≤ 65535) (hc : 0 ≤ c ∧ c ≤ 4294967295) (hd : 0 ≤ d ∧ d ≤ 65535) (hl : l.size ≤ 1000000) (h8 : 8 ≤ l.size) (hi : ips.size = 8) :
    Calls Tryz.prog 77 #[.string l, .string ips, .agg #[.int .i64 E, .int .u8 t.p, .int .u32 t.a, .int .u16 t.b, .int .u32 t.c, .int .u16 t.d, .bool q, .int .i64 R], .agg #[.int .u32 a, .int .u16 b, .int .u32 c, .int .u16 d]] w (Ret (.string (S (crOf (L l) (L ips) t.p q a b c d))) w) := by
  obtain ⟨p, ta, tb, tc, td⟩ := t
  simp only
  have hL := L_length l
  have c6 := fun W => rn_Ports a b c d l ips 6 6 W (Or.inr ⟨rfl, rfl⟩) ha hb hc hd hl (by omega) hi
  have c16 := fun (h : 18 ≤ l.size) W => rn_Ports a b c d l ips 16 16 W (Or.inl ⟨rfl, rfl⟩) ha hb hc hd hl (by omega) hi
  have cw := fun (W : World) (A : Option Addr) (hR : Row W W.heap.size A 2 [.int .u16 b, .int .u16 d]) => r_Word A 2 2 [b, d] W hR (by intro x hx; simp only [List.mem_cons, List.not_mem_nil, or_false] at hx; rcases hx with rfl | rfl; exact hb; exact hd) (by omega)
  have cW := fun W => rn_With l 0 (S (putW [b, d])) W (by omega) (by rw [S_size, putW2_len]; omega)
  rw [L_S, S_size, putW2_len, List.take_zero, List.nil_append, Nat.zero_add, show ((0 : Nat) : Int) = 0 from rfl] at cW
  have cqb := fun W => rn_query l b W (by omega) h8 hb
  have cqd := fun W => rn_query l d W (by omega) h8 hd
  have r17 : p = 17 → crOf (L l) (L ips) p q a b c d = flowNew (L l) (L ips) a b c d 6 := fun h => by unfold crOf; rw [if_pos h]
  have r6 : p = 6 → 18 ≤ l.size → crOf (L l) (L ips) p q a b c d = flowNew (L l) (L ips) a b c d 16 := fun h h2 => by unfold crOf; rw [if_neg (by omega), if_pos ⟨h, by omega⟩]
  have r6n : p = 6 → ¬ 18 ≤ l.size → crOf (L l) (L ips) p q a b c d = putW [b, d] ++ (L l).drop 4 := fun h h2 => by unfold crOf; rw [if_neg (by omega), if_neg (fun k => by omega), if_pos h]
  have rq : p ≠ 17 → p ≠ 6 → crOf (L l) (L ips) p q a b c d = queryOf (L l) (if q = true then b else d) := fun h h2 => by unfold crOf; rw [if_neg h, if_neg (fun k => h2 k.1), if_neg h2]
  obtain ⟨RV, hRV⟩ : ∃ RV, crOf (L l) (L ips) p q a b c d = RV := ⟨_, rfl⟩
  rw [hRV] at r17 r6 r6n rq ⊢
  clear hRV
  generalize flowNew (L l) (L ips) a b c d 6 = n6 at *
  generalize flowNew (L l) (L ips) a b c d 16 = n16 at *
  generalize putW [b, d] ++ (L l).drop 4 = n4 at *
  generalize S (putW [b, d]) = pw at *
  have C6 := hide c6; have C16 := hide c16; have CW := hide cw; have CWW := hide cW; have CQB := hide cqb; have CQD := hide cqd
  have R17 := hide r17; have R6 := hide r6; have R6N := hide r6n; have RQ := hide rq
  clear c6 c16 cw cW cqb cqd r17 r6 r6n rq ha hb hc hd hL h8 hi
  by_cases p17 : p = 17
  · subst p17
    have HV := hide (R17.out rfl)
    clear C16 CW CWW CQB CQD R17 R6 R6N RQ hl
    go_enter Tryz.func77, Tryz.ntmps77
    have d0 := Cells.new w #[.int .i64 E, .int .u8 17, .int .u32 ta, .int .u16 tb, .int .u32 tc, .int .u16 td, .bool q, .int .i64 R] 84
    replace d0 := Cells.below (fresh_below (w.alloc (.cells #[.int .i64 E, .int .u8 17, .int .u32 ta, .int .u16 tb, .int .u32 tc, .int .u16 td, .bool q, .int .i64 R] 84)) (.cells #[.int .u32 a, .int .u16 b, .int .u32 c, .int .u16 d] 39)) d0
    have d1 := Cells.new (w.alloc (.cells #[.int .i64 E, .int .u8 17, .int .u32 ta, .int .u16 tb, .int .u32 tc, .int .u16 td, .bool q, .int .i64 R] 84)) #[.int .u32 a, .int .u16 b, .int .u32 c, .int .u16 d] 39
    have l0 : Below w.heap.size w ((w.alloc (.cells #[.int .i64 E, .int .u8 17, .int .u32 ta, .int .u16 tb, .int .u32 tc, .int .u16 td, .bool q, .int .i64 R] 84)).alloc (.cells #[.int .u32 a, .int .u16 b, .int .u32 c, .int .u16 d] 39)) := (bstep (fresh_below _ _) (fresh_below _ _))
    simp only [World.size_alloc] at d1
    have L0 := hide l0; have D0 := hide d0; have D1 := hide d1
    clear l0 d0 d1
    go_upto_region 1 with fail
    have l0 := L0.out; have d0 := D0.out; have d1 := D1.out
    clear L0 D0 D1
    generalize ((w.alloc (.cells #[.int .i64 E, .int .u8 17, .int .u32 ta, .int .u16 tb, .int .u32 tc, .int .u16 td, .bool q, .int .i64 R] 84)).alloc (.cells #[.int .u32 a, .int .u16 b, .int .u32 c, .int .u16 d] 39)) = w1 at *
    obtain ⟨qd0_0, qd0_1, qd0_2, qd0_3, qd0_4, qd0_5, qd0_6, qd0_7⟩ := d0.q8
    obtain ⟨qd1_0, qd1_1, qd1_2, qd1_3⟩ := d1.q4
    have bb : Below w1.heap.size w1 w1 := Below.refl _ _
    have L0 := hide l0; have D0 := hide d0; have D1 := hide d1
    clear l0 d0 d1
    go_wp2_with (go_at_call 74; (with_reducible refine (C6.out _).mono ?_); rintro e w2 ⟨rfl, b2⟩)
    go_ret
    exact ⟨by rw [HV.out]; rfl, bstep L0.out b2⟩
  have q17 : (p == 17) = false := by simpa using p17
  by_cases p6 : p = 6
  · subst p6
    by_cases h18 : 18 ≤ l.size
    · have HV := hide (R6.out rfl h18)
      have c16 := C16.out h18
      have C := hide c16
      have hz : (18 : Int) ≤ (l.size : Int) := by omega
      clear c16 C6 C16 CW CWW CQB CQD R17 R6 R6N RQ hl h18 p17
      go_enter Tryz.func77, Tryz.ntmps77
      have d0 := Cells.new w #[.int .i64 E, .int .u8 6, .int .u32 ta, .int .u16 tb, .int .u32 tc, .int .u16 td, .bool q, .int .i64 R] 84
      replace d0 := Cells.below (fresh_below (w.alloc (.cells #[.int .i64 E, .int .u8 6, .int .u32 ta, .int .u16 tb, .int .u32 tc, .int .u16 td, .bool q, .int .i64 R] 84)) (.cells #[.int .u32 a, .int .u16 b, .int .u32 c, .int .u16 d] 39)) d0
      have d1 := Cells.new (w.alloc (.cells #[.int .i64 E, .int .u8 6, .int .u32 ta, .int .u16 tb, .int .u32 tc, .int .u16 td, .bool q, .int .i64 R] 84)) #[.int .u32 a, .int .u16 b, .int .u32 c, .int .u16 d] 39
      have l0 : Below w.heap.size w ((w.alloc (.cells #[.int .i64 E, .int .u8 6, .int .u32 ta, .int .u16 tb, .int .u32 tc, .int .u16 td, .bool q, .int .i64 R] 84)).alloc (.cells #[.int .u32 a, .int .u16 b, .int .u32 c, .int .u16 d] 39)) := (bstep (fresh_below _ _) (fresh_below _ _))
      simp only [World.size_alloc] at d1
      have L0 := hide l0; have D0 := hide d0; have D1 := hide d1
      clear l0 d0 d1
      go_upto_region 1 with fail
      have l0 := L0.out; have d0 := D0.out; have d1 := D1.out
      clear L0 D0 D1
      generalize ((w.alloc (.cells #[.int .i64 E, .int .u8 6, .int .u32 ta, .int .u16 tb, .int .u32 tc, .int .u16 td, .bool q, .int .i64 R] 84)).alloc (.cells #[.int .u32 a, .int .u16 b, .int .u32 c, .int .u16 d] 39)) = w1 at *
      obtain ⟨qd0_0, qd0_1, qd0_2, qd0_3, qd0_4, qd0_5, qd0_6, qd0_7⟩ := d0.q8
      obtain ⟨qd1_0, qd1_1, qd1_2, qd1_3⟩ := d1.q4
      have bb : Below w1.heap.size w1 w1 := Below.refl _ _
      have L0 := hide l0; have D0 := hide d0; have D1 := hide d1
      clear l0 d0 d1
      go_wp2_with (go_at_call 74; (with_reducible refine (C.out _).mono ?_); rintro e w2 ⟨rfl, b2⟩)
      go_ret
      exact ⟨by rw [HV.out]; rfl, bstep L0.out b2⟩
    · have HV := hide (R6N.out rfl h18)
      have hz : ¬ (18 : Int) ≤ (l.size : Int) := by omega
      clear C6 C16 CQB CQD R17 R6 R6N RQ hl h18 p17
      go_enter Tryz.func77, Tryz.ntmps77
      have d0 := Cells.new w #[.int .i64 E, .int .u8 6, .int .u32 ta, .int .u16 tb, .int .u32 tc, .int .u16 td, .bool q, .int .i64 R] 84
      replace d0 := Cells.below (fresh_below (w.alloc (.cells #[.int .i64 E, .int .u8 6, .int .u32 ta, .int .u16 tb, .int .u32 tc, .int .u16 td, .bool q, .int .i64 R] 84)) (.cells #[.int .u32 a, .int .u16 b, .int .u32 c, .int .u16 d] 39)) d0
      have d1 := Cells.new (w.alloc (.cells #[.int .i64 E, .int .u8 6, .int .u32 ta, .int .u16 tb, .int .u32 tc, .int .u16 td, .bool q, .int .i64 R] 84)) #[.int .u32 a, .int .u16 b, .int .u32 c, .int .u16 d] 39
      have l0 : Below w.heap.size w ((w.alloc (.cells #[.int .i64 E, .int .u8 6, .int .u32 ta, .int .u16 tb, .int .u32 tc, .int .u16 td, .bool q, .int .i64 R] 84)).alloc (.cells #[.int .u32 a, .int .u16 b, .int .u32 c, .int .u16 d] 39)) := (bstep (fresh_below _ _) (fresh_below _ _))
      simp only [World.size_alloc] at d1
      have L0 := hide l0; have D0 := hide d0; have D1 := hide d1
      clear l0 d0 d1
      go_upto_region 1 with fail
      have l0 := L0.out; have d0 := D0.out; have d1 := D1.out
      clear L0 D0 D1
      generalize ((w.alloc (.cells #[.int .i64 E, .int .u8 6, .int .u32 ta, .int .u16 tb, .int .u32 tc, .int .u16 td, .bool q, .int .i64 R] 84)).alloc (.cells #[.int .u32 a, .int .u16 b, .int .u32 c, .int .u16 d] 39)) = w1 at *
      obtain ⟨qd0_0, qd0_1, qd0_2, qd0_3, qd0_4, qd0_5, qd0_6, qd0_7⟩ := d0.q8
      obtain ⟨qd1_0, qd1_1, qd1_2, qd1_3⟩ := d1.q4
      have bb : Below w1.heap.size w1 w1 := Below.refl _ _
      have L0 := hide l0; have D0 := hide d0; have D1 := hide d1
      clear l0 d0 d1
      go_upto_region 6 with fail
      go_wp2_with (first | (go_at_call 82; (refine (CW.out _ _ (by (repeat' (first | with_reducible refine Row.afterdraw ?_ | with_reducible exact Row.freshAt _ _ _ _ _ _ (by simp) rfl rfl | (with_reducible refine Row.rise ?_ (fresh_below _ _)))))).mono ?_); rintro e w2 ⟨rfl, b2⟩) | (go_at_call 38; (with_reducible refine (CWW.out _).mono ?_); rintro e w3 ⟨rfl, b3⟩))
      go_ret
      exact ⟨by rw [HV.out]; rfl, bstep (bstep (bstep L0.out (fresh_below _ _)) b2) b3⟩
  have q6 : (p == 6) = false := by simpa using p6
  have hv := RQ.out p17 p6
  cases q
  · have HV := hide hv
    clear hv C6 C16 CW CWW CQB R17 R6 R6N RQ hl p17 p6
    go_enter Tryz.func77, Tryz.ntmps77
    have d0 := Cells.new w #[.int .i64 E, .int .u8 p, .int .u32 ta, .int .u16 tb, .int .u32 tc, .int .u16 td, .bool false, .int .i64 R] 84
    replace d0 := Cells.below (fresh_below (w.alloc (.cells #[.int .i64 E, .int .u8 p, .int .u32 ta, .int .u16 tb, .int .u32 tc, .int .u16 td, .bool false, .int .i64 R] 84)) (.cells #[.int .u32 a, .int .u16 b, .int .u32 c, .int .u16 d] 39)) d0
    have d1 := Cells.new (w.alloc (.cells #[.int .i64 E, .int .u8 p, .int .u32 ta, .int .u16 tb, .int .u32 tc, .int .u16 td, .bool false, .int .i64 R] 84)) #[.int .u32 a, .int .u16 b, .int .u32 c, .int .u16 d] 39
    have l0 : Below w.heap.size w ((w.alloc (.cells #[.int .i64 E, .int .u8 p, .int .u32 ta, .int .u16 tb, .int .u32 tc, .int .u16 td, .bool false, .int .i64 R] 84)).alloc (.cells #[.int .u32 a, .int .u16 b, .int .u32 c, .int .u16 d] 39)) := (bstep (fresh_below _ _) (fresh_below _ _))
    simp only [World.size_alloc] at d1
    have L0 := hide l0; have D0 := hide d0; have D1 := hide d1
    clear l0 d0 d1
    go_upto_region 1 with fail
    have l0 := L0.out; have d0 := D0.out; have d1 := D1.out
    clear L0 D0 D1
    generalize ((w.alloc (.cells #[.int .i64 E, .int .u8 p, .int .u32 ta, .int .u16 tb, .int .u32 tc, .int .u16 td, .bool false, .int .i64 R] 84)).alloc (.cells #[.int .u32 a, .int .u16 b, .int .u32 c, .int .u16 d] 39)) = w1 at *
    obtain ⟨qd0_0, qd0_1, qd0_2, qd0_3, qd0_4, qd0_5, qd0_6, qd0_7⟩ := d0.q8
    obtain ⟨qd1_0, qd1_1, qd1_2, qd1_3⟩ := d1.q4
    have bb : Below w1.heap.size w1 w1 := Below.refl _ _
    have L0 := hide l0; have D0 := hide d0; have D1 := hide d1
    clear l0 d0 d1
    go_wp2_with (go_at_call 75; (with_reducible refine (CQD.out _).mono ?_); rintro e w2 ⟨rfl, b2⟩)
    go_ret
    exact ⟨by rw [HV.out]; rfl, bstep L0.out b2⟩
  · have HV := hide hv
    clear hv C6 C16 CW CWW CQD R17 R6 R6N RQ hl p17 p6
    go_enter Tryz.func77, Tryz.ntmps77
    have d0 := Cells.new w #[.int .i64 E, .int .u8 p, .int .u32 ta, .int .u16 tb, .int .u32 tc, .int .u16 td, .bool true, .int .i64 R] 84
    replace d0 := Cells.below (fresh_below (w.alloc (.cells #[.int .i64 E, .int .u8 p, .int .u32 ta, .int .u16 tb, .int .u32 tc, .int .u16 td, .bool true, .int .i64 R] 84)) (.cells #[.int .u32 a, .int .u16 b, .int .u32 c, .int .u16 d] 39)) d0
    have d1 := Cells.new (w.alloc (.cells #[.int .i64 E, .int .u8 p, .int .u32 ta, .int .u16 tb, .int .u32 tc, .int .u16 td, .bool true, .int .i64 R] 84)) #[.int .u32 a, .int .u16 b, .int .u32 c, .int .u16 d] 39
    have l0 : Below w.heap.size w ((w.alloc (.cells #[.int .i64 E, .int .u8 p, .int .u32 ta, .int .u16 tb, .int .u32 tc, .int .u16 td, .bool true, .int .i64 R] 84)).alloc (.cells #[.int .u32 a, .int .u16 b, .int .u32 c, .int .u16 d] 39)) := (bstep (fresh_below _ _) (fresh_below _ _))
    simp only [World.size_alloc] at d1
    have L0 := hide l0; have D0 := hide d0; have D1 := hide d1
    clear l0 d0 d1
    go_upto_region 1 with fail
    have l0 := L0.out; have d0 := D0.out; have d1 := D1.out
    clear L0 D0 D1
    generalize ((w.alloc (.cells #[.int .i64 E, .int .u8 p, .int .u32 ta, .int .u16 tb, .int .u32 tc, .int .u16 td, .bool true, .int .i64 R] 84)).alloc (.cells #[.int .u32 a, .int .u16 b, .int .u32 c, .int .u16 d] 39)) = w1 at *
    obtain ⟨qd0_0, qd0_1, qd0_2, qd0_3, qd0_4, qd0_5, qd0_6, qd0_7⟩ := d0.q8
    obtain ⟨qd1_0, qd1_1, qd1_2, qd1_3⟩ := d1.q4
    have bb : Below w1.heap.size w1 w1 := Below.refl _ _
    have L0 := hide l0; have D0 := hide d0; have D1 := hide d1
    clear l0 d0 d1
    go_wp2_with (go_at_call 75; (with_reducible refine (CQB.out _).mono ?_); rintro e w2 ⟨rfl, b2⟩)
    go_ret
    exact ⟨by rw [HV.out]; rfl, bstep L0.out b2⟩
end Go.Proofs.YtjeaknipmdfkdaaGreatDoor
end
