/- BindsMake: the given statement, out of its walk. -/
import Derived.Test.YtilfcikhipadpaaDoorM31
import Derived.Test.YtilfcikhipadpaaDoorM30
import Derived.Test.YtilfcikhipadpaaDoorM29
import Derived.Test.YtilfcikhipadpaaDoorCards
import Derived.Test.YtilfcikhipadpaaDoorTie
import Derived.Handed
import Derived.LaidMore
import Derived.Stop.Joined
import Derived.Test.YtilfcikhipadpaaDoorRows
import Derived.WalkKit
import Derived.ProofKit
import Derived.OpenShut
import Derived.ShutString
import Derived.ChangeOld
import Derived.Below
import Derived.SliceStrings
import Derived.SizedLaws
set_option linter.unusedVariables false
namespace Go.Proofs.YtilfcikhipadpaaDoor.lawBindsMake
open Go.ChangeShapes Go.WideShapes Go.ChangeAt Go.RowKit
open Go.ChangeMaps (open_string shut_string)

theorem own : ownKnob Tryd.prog.godebug = none := by kernel_rfl
theorem laidOut : laidOutB Tryd.prog = true := by kernel_rfl

set_option maxRecDepth 100000 in
theorem lifted (os : Os) (started : os.Started) (H : Type) (enc : TypeId × Value → H) :
    ReturnsInHanded {} Tryd.checked os 3 .any (fun w args => (Rows.bindsMakeSpec.pre enc Tryd.prog Tryd.f3 Rows.bindsMakeRow.domain false w args ∧ laidMetH Tryd.prog laidMk w) ∧ sizedMet enc Tryd.prog Tryd.f3 (OpenSpec.ofChange Rows.bindsMakeSpec) false w args) (Rows.bindsMakeSpec.post enc Tryd.prog Tryd.f3 false true false false) := by
  refine returnsInHanded_of_change_and (C := Tryd.checked) (X := fun w _ => laidMetH Tryd.prog laidMk w) (fun _ _ _ hh h => h.of_heap hh) own started (by kernel_rfl) Tryd.func3
    (ChangeSpec.witness_shaped (enc := enc) (C := Tryd.checked) (os := os) (X := fun w _ => laidMetH Tryd.prog laidMk w) false (World.doorLaid Tryd.prog 400 os) #[.agg #[.int .u8 0, .int .u32 0, .int .u16 0, .int .u32 0, .int .u16 0, .int .u32 0, .int .u16 0, .bool false, .int .i64 0, .slice none 0 0], .slice none 0 0, .int .i64 0] 8 rfl (World.shaped_of_RefB (by kernel_rfl) (by kernel_rfl)) (by kernel_rfl) (by kernel_rfl) (by kernel_rfl) (mk_met os _)) ?_
  intro W base args ds gs before hval0 hW hcnd hsz0 hL _
  have hsz : (DataW.weightsEach Tryd.prog (Tryd.f3.params.toList ++ Rows.bindsMakeSpec.plain.varTypes Tryd.prog) (ds ++ gs)).all (· ≤ reachBytes) = true := hsz0
  have hval : ∀ (j : Nat) t v, Tryd.f3.params[j]? = some t → args[j]? = some v → Value.okWide Tryd.prog W .any base t v := hval0
  have hW' := hW
  obtain ⟨p, q, hA0, hV, rfl, hfz, hnd⟩ := hW
  have hA : DataW.TrodAll enc Tryd.prog W 0 (fun _ => true) true Tryd.f3.params.toList args.toList ds p := hA0
  rw [Tryd.params3] at hA hval hsz
  obtain ⟨v0, vs0, d0, ds0, p0, q0, hargs, rfl, rfl, h0, r0⟩ := trodAll_cons hA
  obtain ⟨v1, vs1, d1, ds1, p1, q1, rfl, rfl, rfl, h1, r1⟩ := trodAll_cons r0
  obtain ⟨v2, vs2, d2, ds2, p2, q2, rfl, rfl, rfl, h2, r2⟩ := trodAll_cons r1
  obtain ⟨rfl, rfl, rfl⟩ := trodAll_nil r2
  obtain rfl : args = #[v0, v1, v2] := by cases args; simp_all
  obtain ⟨rfl, rfl⟩ := trodVars_none hV
  have k0 := h0
  have lt0 : ∀ x ∈ p0, x.block < W.heap.size := by obtain ⟨m, hm⟩ := k0; exact DataW.trod_lt m _ _ _ hm
  have k1 := h1
  have lt1 : ∀ x ∈ p1, x.block < W.heap.size := by obtain ⟨m, hm⟩ := k1; exact DataW.trod_lt m _ _ _ hm
  have k2 := h2
  have lt2 : ∀ x ∈ p2, x.block < W.heap.size := by obtain ⟨m, hm⟩ := k2; exact DataW.trod_lt m _ _ _ hm
  obtain ⟨cs0, rfl, hsz0⟩ := okWide_struct Tryd.underlying31 (hval 0 31 v0 rfl rfl)
  rw [show Tryd.prog.cellsOf 31 = 10 from by kernel_rfl] at hsz0
  obtain ⟨fuel0, hf0⟩ := h0
  simp only [Value.cells] at hf0
  obtain ⟨a0_0, qa0_0, wa0_0⟩ := leaf_int (leafAt_of (n := 8) (i := 0) (u := 5) (by kernel_rfl) hf0) Tryd.underlying5
  obtain ⟨a0_1, qa0_1, wa0_1⟩ := leaf_int (leafAt_of (n := 8) (i := 1) (u := 23) (by kernel_rfl) hf0) Tryd.underlying23
  obtain ⟨a0_2, qa0_2, wa0_2⟩ := leaf_int (leafAt_of (n := 8) (i := 2) (u := 24) (by kernel_rfl) hf0) Tryd.underlying24
  obtain ⟨a0_3, qa0_3, wa0_3⟩ := leaf_int (leafAt_of (n := 8) (i := 3) (u := 23) (by kernel_rfl) hf0) Tryd.underlying23
  obtain ⟨a0_4, qa0_4, wa0_4⟩ := leaf_int (leafAt_of (n := 8) (i := 4) (u := 24) (by kernel_rfl) hf0) Tryd.underlying24
  obtain ⟨a0_5, qa0_5, wa0_5⟩ := leaf_int (leafAt_of (n := 8) (i := 5) (u := 23) (by kernel_rfl) hf0) Tryd.underlying23
  obtain ⟨a0_6, qa0_6, wa0_6⟩ := leaf_int (leafAt_of (n := 8) (i := 6) (u := 24) (by kernel_rfl) hf0) Tryd.underlying24
  obtain ⟨a0_7, qa0_7⟩ := leaf_bool (leafAt_of (n := 8) (i := 7) (u := 4) (by kernel_rfl) hf0) Tryd.underlying4
  obtain ⟨a0_8, qa0_8, wa0_8⟩ := leaf_int (leafAt_of (n := 8) (i := 8) (u := 3) (by kernel_rfl) hf0) Tryd.underlying3
  obtain ⟨va0_9, xa0_9, na0_9, qa0_9, ta0_9, _⟩ := leafAt_of (n := 8) (i := 9) (u := 29) (by kernel_rfl) hf0
  obtain ⟨Aa0_9, na0_9, ca0_9, la0_9, ea0_9, wa0_9⟩ := open_wants ta0_9
  subst ea0_9
  obtain rfl : cs0 = #[.int .u8 a0_0, .int .u32 a0_1, .int .u16 a0_2, .int .u32 a0_3, .int .u16 a0_4, .int .u32 a0_5, .int .u16 a0_6, .bool a0_7, .int .i64 a0_8, .slice Aa0_9 na0_9 ca0_9] := arr_ext hsz0 (fun j hj => by
    match j, hj with
    | 0, _ => exact qa0_0
    | 1, _ => exact qa0_1
    | 2, _ => exact qa0_2
    | 3, _ => exact qa0_3
    | 4, _ => exact qa0_4
    | 5, _ => exact qa0_5
    | 6, _ => exact qa0_6
    | 7, _ => exact qa0_7
    | 8, _ => exact qa0_8
    | 9, _ => exact qa0_9)
  obtain ⟨a1, len1, cap1, rfl⟩ := okWide_slice Tryd.underlying32 (hval 1 32 v1 rfl rfl)
  obtain ⟨fuel1, hf1⟩ := h1
  simp only [Value.cells] at hf1
  obtain ⟨a1q, len1q, cap1q, z1, e1, w1⟩ := open_points (v := .slice a1 len1 cap1) hf1
  injection e1 with e1a e1b e1c
  subst e1a e1b e1c
  obtain ⟨a2, rfl, rfl, rfl, w2⟩ := open_int Tryd.underlying3 (hval 2 3 v2 rfl rfl) h2
  clear hA0 hval0
  refine (BindsMake_walk a0_0 a0_1 a0_2 a0_3 a0_4 a0_5 a0_6 a0_7 a0_8 Aa0_9 na0_9 ca0_9 la0_9 a1 len1 cap1 z1 a2 W (mk_of_laid hL) (bounds_u8 wa0_0) (bounds_u32 wa0_1) (bounds_u16 wa0_2) (bounds_u32 wa0_3) (bounds_u16 wa0_4) (bounds_u32 wa0_5) (bounds_u16 wa0_6) (bounds_i64 wa0_8) wa0_9 w1 (bounds_i64 w2)).mono fun e W' ⟨he, bel⟩ => ?_
  subst he
  exact ⟨_, rfl, _, _, _, [], _, [], hW', trodAll_mk1 (shut_bool Tryd.underlying4 _), (trodAll_cons_mk (Below.trod laidOut (by kernel_rfl) (of_decide_eq_true (by kernel_rfl)) k0 bel lt0) (trodAll_cons_mk (Below.trod laidOut (by kernel_rfl) (of_decide_eq_true (by kernel_rfl)) k1 bel lt1) (trodAll_cons_mk (Below.trod laidOut (by kernel_rfl) (of_decide_eq_true (by kernel_rfl)) k2 bel lt2) trodAll_mk0))), rfl, bel.frame _, fun h => by cases h⟩

theorem over : Rows.bindsMakeRow.holds Tryd.pinned (OpenSpec.ofChange Rows.bindsMakeSpec) :=
  OpenClaim.holds_of_wide 3 Tryd.f3 rfl rfl rfl rfl rfl rfl rfl ⟨rfl, rfl, rfl, rfl, rfl⟩ rfl rfl rfl rfl rfl (by kernel_rfl) Tryd.func3 (by kernel_rfl)
    (of_decide_eq_true (by kernel_rfl)) (by unfold Func.isWrapper; first | (rw [if_pos (by decide +kernel)]; kernel_rfl) | (rw [if_neg (by decide +kernel)]; exact ⟨rfl, rfl⟩))
    (fun os started H enc _ => lifted os started H enc)

/-- the row's statement -/
theorem row : Rows.BindsMakeSaid := over
/-- the card -/
theorem proved : Rows.BindsMakeCardSaid :=
  Claim7.holds_tied_plain_at .later [] [.data, .mapped] true (true, "4a179c07216e2908850213962a60b1fb9c9f7b6cce96359ab29e204dd17e3ca4") false
    over (fun _ h => by cases h) (by kernel_rfl) (fun _ h => by cases h) bindsMake_row_tie rfl ⟨rfl, rfl⟩ (by kernel_rfl) rfl
    (fun f fn hf hfn => by
      obtain rfl : f = 3 := Option.some.inj ((show Tryd.prog.funcNamed "porter/porterlaw20.BindsMake" = some 3 by kernel_rfl).symm.trans hf) |>.symm
      obtain rfl : fn = Tryd.f3 := (Option.some.inj (Tryd.func3.symm.trans hfn)).symm
      exact ⟨by kernel_rfl, fun j t ht => by
        rw [Tryd.params3] at ht
        have hm : t ∈ [31, 32, 3] := by simpa using Array.mem_of_getElem? ht
        have hall : ([31, 32, 3].all fun u => !Tryd.prog.wantsStandIn u) = true := by kernel_rfl
        exact (show Tryd.prog.wantsStandIn t = false by simpa using List.all_eq_true.1 hall t hm)⟩)
    (by kernel_rfl)
#print axioms proved
end Go.Proofs.YtilfcikhipadpaaDoor.lawBindsMake
