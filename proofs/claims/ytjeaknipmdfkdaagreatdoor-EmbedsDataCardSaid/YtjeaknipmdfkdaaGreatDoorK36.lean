/- Several texts of this claim, one behind the other. -/
import Derived.Test.YtjeaknipmdfkdaaGreatDoorK2
import Derived.Test.YtjeaknipmdfkdaaGreatDoorK34
import Derived.Test.YtjeaknipmdfkdaaGreatDoorK12
import Derived.Test.YtjeaknipmdfkdaaGreatDoorK1

section
/- EmbedsData walked. -/
set_option linter.unusedVariables false
set_option linter.unusedSimpArgs false
namespace Go.Proofs.YtjeaknipmdfkdaaGreatDoor
open Go.RowKit
attribute [local go_sem] Oper.semAt_some

set_option maxRecDepth 100000 in
set_option maxHeartbeats 8000000 in
theorem data_of (k v : Int) (x : ByteArray) (y lv m oa ob oc od a b c d : Int) (w : World) (T0 : Tabs w) (hk : y.tmod 3 = k) (hkw : IntKind.u8.wrap k = k) (hi : ∀ w, (Instr.index 43 (.agg #[.int .u8 3, .int .u8 11, .int .u8 12]) (.int .u8 k)).run Tryz.prog w = .ok (.int .u8 v) w)
    (hv : 0 ≤ v ∧ v ≤ 255) (hx : x.size ≤ 1000) (hy : 0 ≤ y ∧ y ≤ 255) (hlv : 0 ≤ lv ∧ lv ≤ 255) (hm : 0 ≤ m ∧ m ≤ 65535) (hoa : 0 ≤ oa ∧ oa ≤ 4294967295) (hob : 0 ≤ ob ∧ ob ≤ 65535) (hoc : 0 ≤ oc ∧ oc ≤ 4294967295) (hod : 0 ≤ od ∧ od ≤ 65535) (ha : 0 ≤ a ∧ a ≤ 4294967295) (hb : 0 ≤ b ∧ b ≤ 65535) (hc : 0 ≤ c ∧ c ≤ 4294967295) (hd : 0 ≤ d ∧ d ≤ 65535) :
    Calls Tryz.prog 4 #[.agg #[.int .u8 y, .int .u8 lv, .int .u16 m, .string x], .agg #[.int .u32 oa, .int .u16 ob, .int .u32 oc, .int .u16 od, .int .u32 a, .int .u16 b, .int .u32 c, .int .u16 d]] w (Ret (.bool true) w) := by
  obtain ⟨s1, hs1⟩ : ∃ s1, s1 = S [byt v, byt 0, byt (m / 256), byt (m % 256)] := ⟨_, rfl⟩
  have z1 : s1.size = 4 := by rw [hs1]; rfl
  have cv : ∀ (W : World) (g : Nat), W.cell? ⟨g, 0, none⟩ = some (.int .u8 v) → W.cell? ⟨g, 1, none⟩ = some (.int .u8 0) → W.cell? ⟨g, 2, none⟩ = some (.int .u8 (m / 256)) → W.cell? ⟨g, 3, none⟩ = some (.int .u8 (m % 256)) → (convert 45 9 (.slice (some ⟨g, 0, none⟩) 4 4)).run Tryz.prog W = .ok (.string s1) W := fun W g h0 h1 h2 h3 => by
    rw [hs1]
    exact run_convert_bytes_arg (P := Tryz.prog) W 45 5 Tryz.underlying45 Tryz.underlying5 g 0 4 4 [v, 0, m / 256, m % 256] rfl
      (fun i hi => by
        match i, hi with
        | 0, _ => exact h0
        | 1, _ => exact h1
        | 2, _ => exact h2
        | 3, _ => exact h3) 9 Tryz.underlying9
  have n1 : ¬ (1000 : Int) < (x.size : Int) := by omega
  have z2 : (s1 ++ ({ data := #[114, 101, 115, 116] } : ByteArray)).size = 8 := by rw [ByteArray.size_append, z1]; rfl
  have g1 : ¬ 9223372036854775807 < s1.size + 4 := by rw [z1]; decide
  have g2 : ¬ 9223372036854775807 < 8 + x.size := by omega
  obtain ⟨q, hq⟩ : ∃ q, q = s1 ++ ({ data := #[114, 101, 115, 116] } : ByteArray) ++ x := ⟨_, rfl⟩
  have zq : q.size = 8 + x.size := by rw [hq, ByteArray.size_append, z2]
  have cp := fun W => r4_Put 0 0 lv 1 1 2 false { data := #[] } q W (by refine ⟨?_, ?_, hlv, ?_, ?_, ?_, ?_⟩ <;> (dsimp only; decide)) (by omega)
  obtain ⟨u, hu⟩ : ∃ u, u = ipText (Hd.mk 0 0 false lv 1 1 2 { data := #[] }) q := ⟨_, rfl⟩
  have hus : u.size ≤ 140737488351232 := by
    rw [hu]; unfold ipText
    split
    · unfold Hd.put Hd.bytes; rw [S_size]; simp only [Hd.words, List.length_append, putW_length, put32_length, L_length, List.length_cons, List.length_nil]; have e0 : ({ data := #[] } : ByteArray).size = 0 := rfl; omega
    · decide
  rw [← hu] at cp
  generalize ipErr (Hd.mk 0 0 false lv 1 1 2 { data := #[] }) q = eu at cp
  have ct := fun W K => EmbedsTell_walk u oa ob oc od a b c d W K hus hoa hob hoc hod ha hb hc hd
  have CP := hide cp; have CT := hide ct; have TT := hide T0; have CV := hide cv; have HQ := hide hq.symm
  have w1 : IntKind.u8.wrap (m / 256) = m / 256 := by rw [IntKind.wrap_u8]; omega
  have w2 : IntKind.u8.wrap m = m % 256 := by rw [IntKind.wrap_u8]
  have w3 : IntKind.u16.wrap (m / 256) = m / 256 := by rw [IntKind.wrap_u16]; omega
  clear cp ct T0 hs1 hu hus hx hy hlv hoa hob hoc hod ha hb hc hd zq z1 cv hq hv
  go_enter Tryz.func4, Tryz.ntmps4
  have d0 := Cells.new w #[.int .u8 y, .int .u8 lv, .int .u16 m, .string x] 42
  replace d0 := Cells.below (fresh_below (w.alloc (.cells #[.int .u8 y, .int .u8 lv, .int .u16 m, .string x] 42)) (.cells #[.int .u32 oa, .int .u16 ob, .int .u32 oc, .int .u16 od, .int .u32 a, .int .u16 b, .int .u32 c, .int .u16 d] 30)) d0
  have d1 := Cells.new (w.alloc (.cells #[.int .u8 y, .int .u8 lv, .int .u16 m, .string x] 42)) #[.int .u32 oa, .int .u16 ob, .int .u32 oc, .int .u16 od, .int .u32 a, .int .u16 b, .int .u32 c, .int .u16 d] 30
  have l0 : Below w.heap.size w ((w.alloc (.cells #[.int .u8 y, .int .u8 lv, .int .u16 m, .string x] 42)).alloc (.cells #[.int .u32 oa, .int .u16 ob, .int .u32 oc, .int .u16 od, .int .u32 a, .int .u16 b, .int .u32 c, .int .u16 d] 30)) := (bstep (fresh_below _ _) (fresh_below _ _))
  simp only [World.size_alloc] at d1
  have L0 := hide l0; have D0 := hide d0; have D1 := hide d1
  clear l0 d0 d1
  go_upto_region 3 with fail
  have l0 := L0.out; have d0 := D0.out; have d1 := D1.out
  clear L0 D0 D1
  generalize ((w.alloc (.cells #[.int .u8 y, .int .u8 lv, .int .u16 m, .string x] 42)).alloc (.cells #[.int .u32 oa, .int .u16 ob, .int .u32 oc, .int .u16 od, .int .u32 a, .int .u16 b, .int .u32 c, .int .u16 d] 30)) = wa at *
  obtain ⟨qd0_0, qd0_1, qd0_2, qd0_3⟩ := d0.q4
  obtain ⟨qd1_0, qd1_1, qd1_2, qd1_3, qd1_4, qd1_5, qd1_6, qd1_7⟩ := d1.q8
  have bb : Below wa.heap.size wa wa := Below.refl _ _
  have L0 := hide l0; have D0 := hide d0; have D1 := hide d1
  clear l0 d0 d1
  have sA : Below wa.heap.size wa wa.drew := Below.drew (Below.refl _ _)
  clear bb qd1_0 qd1_1 qd1_2 qd1_3 qd1_4 qd1_5 qd1_6 qd1_7
  focus
    refine wp_region_J [] (fun W => Below wa.heap.size wa W) (by kernel_rfl) (sA) (fun hS0 => ?_)
    refine tJ 0 rfl hS0 ?_
    (try simp only [Act.put, putS])
    refine tJ 1 rfl hS0 ?_
    (try simp only [Act.put, putS])
    refine tJ 2 rfl hS0 ?_
    (try simp only [Act.put, putS])
    refine tJ 3 rfl hS0 ?_
    (try simp only [Act.put, putS])
    refine tJ 4 rfl hS0 ?_
    (try simp only [Act.put, putS])
    refine tJ 5 rfl hS0 ?_
    (try simp only [Act.put, putS])
    refine tJ 6 rfl hS0 ?_
    (try simp only [Act.put, putS])
    refine tJ 7 rfl hS0 ?_
    (try simp only [Act.put, putS])
    refine tJ 8 rfl hS0 ?_
    (try simp only [Act.put, putS])
    refine tJ 9 rfl hS0 ?_
    (try simp only [Act.put, putS])
    refine tJ 10 rfl hS0 ?_
    (try simp only [Act.put, putS])
    refine tJ 11 rfl hS0 ?_
    (try simp only [Act.put, putS])
    refine tJ 15 rfl hS0 ?_
    (try simp only [Act.put, putS])
    refine tJ 16 rfl hS0 ?_
    (try simp only [Act.put, putS])
    refine rJ [12] ?_
    refine (AllReadyJ.cons rfl (fun K hK => ?_) AllReadyJ.nil)
    rw [if_pos (by kernel_rfl)]
    (try simp only [putG])
    (focus go_simp)
    refine hK.out _ _ ?hs (fun hS0 => ?_)
    case hs => (first | with_reducible exact hS0 | with_reducible exact bstep hS0 (fresh_below _ _))
    clear hK K
    (try simp only [Act.put, putS])
    refine rJ [13] ?_
    refine (AllReadyJ.cons rfl (fun K hK => ?_) AllReadyJ.nil)
    (focus (rw [if_pos (by kernel_rfl)]; (try simp only [putG]); have cv := CV.out; (focus go_simp); clear cv))
    (focus (try go_wp2_with fail))
    refine hK.out _ _ ?hs (fun hS0 => ?_)
    case hs => (first | with_reducible exact hS0 | with_reducible exact bstep hS0 (fresh_below _ _))
    clear hK K
    (try simp only [Act.put, putS])
    refine tJ 14 rfl hS0 ?_
    (try simp only [Act.put, putS])
    refine tJ 17 rfl hS0 ?_
    (try simp only [Act.put, putS])
    refine tJ 18 rfl hS0 ?_
    (try simp only [Act.put, putS])
    refine wpAnyJ_done (by kernel_rfl) ?_ _
  go_wp2_with fail
  rw [HQ.out]
  (with_reducible refine (CP.out _).mono ?_)
  rintro e w2 ⟨rfl, b2⟩
  have bq : Below wa.heap.size wa w2 := by first | exact bstep hS0 b2 | exact bstep (Below.drew hS0) b2
  have d1 := Cells.below bq D1.out
  have b3 := bstep L0.out bq
  clear bq b2 hS0 sA qd0_0 qd0_1 qd0_2 qd0_3
  obtain ⟨xd1_0, xd1_1, xd1_2, xd1_3, xd1_4, xd1_5, xd1_6, xd1_7⟩ := d1.x8
  clear d1
  go_wp2_with fail
  (with_reducible refine (CT.out _ (TT.out.below b3)).mono ?_)
  rintro e w4 ⟨rfl, b4⟩
  go_wp2_with fail
  go_ret
  exact ⟨rfl, bstep b3 b4⟩
set_option maxRecDepth 100000 in
set_option maxHeartbeats 4000000 in
theorem EmbedsData_walk (y lv m : Int) (x : ByteArray) (oa ob oc od a b c d : Int) (w : World) (T0 : Tabs w) (hy : 0 ≤ y ∧ y ≤ 255) (hlv : 0 ≤ lv ∧ lv ≤ 255) (hm : 0 ≤ m ∧ m ≤ 65535) (hxs : x.size ≤ 140737488351232) (hoa : 0 ≤ oa ∧ oa ≤ 4294967295) (hob : 0 ≤ ob ∧ ob ≤ 65535) (hoc : 0 ≤ oc ∧ oc ≤ 4294967295) (hod : 0 ≤ od ∧ od ≤ 65535) (ha : 0 ≤ a ∧ a ≤ 4294967295) (hb : 0 ≤ b ∧ b ≤ 65535) (hc : 0 ≤ c ∧ c ≤ 4294967295) (hd : 0 ≤ d ∧ d ≤ 65535) :
    Calls Tryz.prog 4 #[.agg #[.int .u8 y, .int .u8 lv, .int .u16 m, .string x], .agg #[.int .u32 oa, .int .u16 ob, .int .u32 oc, .int .u16 od, .int .u32 a, .int .u16 b, .int .u32 c, .int .u16 d]] w (Ret (.bool true) w) := by
  by_cases hx : x.size ≤ 1000
  · have hm3 : y.tmod 3 = y % 3 := Int.tmod_eq_emod_of_nonneg hy.1
    have h3 : y.tmod 3 = 0 ∨ y.tmod 3 = 1 ∨ y.tmod 3 = 2 := by omega
    rcases h3 with h | h | h
    · exact data_of 0 3 x y lv m oa ob oc od a b c d w T0 h (by decide) (fun _ => by kernel_rfl) (by decide) hx hy hlv hm hoa hob hoc hod ha hb hc hd
    · exact data_of 1 11 x y lv m oa ob oc od a b c d w T0 h (by decide) (fun _ => by kernel_rfl) (by decide) hx hy hlv hm hoa hob hoc hod ha hb hc hd
    · exact data_of 2 12 x y lv m oa ob oc od a b c d w T0 h (by decide) (fun _ => by kernel_rfl) (by decide) hx hy hlv hm hoa hob hoc hod ha hb hc hd
  · have n1 : (1000 : Int) < (x.size : Int) := by omega
    have P5 := hide (fun W T => tolds W T); have TT := hide T0
    clear T0 hx hxs hy hlv hm hoa hob hoc hod ha hb hc hd
    go_enter Tryz.func4, Tryz.ntmps4
    have d0 := Cells.new w #[.int .u8 y, .int .u8 lv, .int .u16 m, .string x] 42
    replace d0 := Cells.below (fresh_below (w.alloc (.cells #[.int .u8 y, .int .u8 lv, .int .u16 m, .string x] 42)) (.cells #[.int .u32 oa, .int .u16 ob, .int .u32 oc, .int .u16 od, .int .u32 a, .int .u16 b, .int .u32 c, .int .u16 d] 30)) d0
    have d1 := Cells.new (w.alloc (.cells #[.int .u8 y, .int .u8 lv, .int .u16 m, .string x] 42)) #[.int .u32 oa, .int .u16 ob, .int .u32 oc, .int .u16 od, .int .u32 a, .int .u16 b, .int .u32 c, .int .u16 d] 30
    have l0 : Below w.heap.size w ((w.alloc (.cells #[.int .u8 y, .int .u8 lv, .int .u16 m, .string x] 42)).alloc (.cells #[.int .u32 oa, .int .u16 ob, .int .u32 oc, .int .u16 od, .int .u32 a, .int .u16 b, .int .u32 c, .int .u16 d] 30)) := (bstep (fresh_below _ _) (fresh_below _ _))
    simp only [World.size_alloc] at d1
    have L0 := hide l0; have D0 := hide d0; have D1 := hide d1
    clear l0 d0 d1
    go_upto_region 1 with fail
    have l0 := L0.out; have d0 := D0.out; have d1 := D1.out
    clear L0 D0 D1
    generalize ((w.alloc (.cells #[.int .u8 y, .int .u8 lv, .int .u16 m, .string x] 42)).alloc (.cells #[.int .u32 oa, .int .u16 ob, .int .u32 oc, .int .u16 od, .int .u32 a, .int .u16 b, .int .u32 c, .int .u16 d] 30)) = wa at *
    obtain ⟨qd0_0, qd0_1, qd0_2, qd0_3⟩ := d0.q4
    obtain ⟨qd1_0, qd1_1, qd1_2, qd1_3, qd1_4, qd1_5, qd1_6, qd1_7⟩ := d1.q8
    have bb : Below wa.heap.size wa wa := Below.refl _ _
    have L0 := hide l0; have D0 := hide d0; have D1 := hide d1
    clear l0 d0 d1
    go_wp2_with fail
    (with_reducible refine (P5.out _ (TT.out.below L0.out)).mono ?_)
    rintro e w1 ⟨rfl, b1⟩
    go_wp2_with fail
    go_ret
    exact ⟨rfl, bstep L0.out b1⟩
end Go.Proofs.YtjeaknipmdfkdaaGreatDoor
end
