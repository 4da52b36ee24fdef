/- BindsErrors: the given statement, out of its walk. -/
import Derived.Test.YtilfcikhipadpaaGreatDoorK44c
import Derived.Test.YtilfcikhipadpaaGreatDoorK13b
import Derived.Test.YtilfcikhipadpaaGreatDoorK45
import Derived.Test.YtilfcikhipadpaaGreatDoorCards
import Derived.Test.YtilfcikhipadpaaGreatDoorTie
import Derived.Handed
import Derived.LaidMore
import Derived.Stop.Joined
import Derived.Test.YtilfcikhipadpaaGreatDoorRows
import Derived.WalkKit
import Derived.ProofKit
import Derived.OpenShut
import Derived.ShutString
import Derived.ChangeOld
import Derived.Below
import Derived.SliceStrings
import Derived.SizedLaws
set_option linter.unusedVariables false
namespace Go.Proofs.YtilfcikhipadpaaGreatDoor.lawBindsErrors
open Go.ChangeShapes Go.WideShapes Go.ChangeAt Go.RowKit
open Go.ChangeMaps (open_string shut_string)

theorem own : ownKnob Tryz.prog.godebug = none := by kernel_rfl
theorem laidOut : laidOutB Tryz.prog = true := by kernel_rfl

set_option maxRecDepth 100000 in
theorem lifted (os : Os) (started : os.Started) (H : Type) (enc : TypeId × Value → H) :
    ReturnsInHanded {} Tryz.checked os 8 .any (fun w args => (Rows.bindsErrorsSpec.pre enc Tryz.prog Tryz.f8 Rows.bindsErrorsRow.domain false w args ∧ laidMetH Tryz.prog laidG w) ∧ sizedMet enc Tryz.prog Tryz.f8 (OpenSpec.ofChange Rows.bindsErrorsSpec) false w args) (Rows.bindsErrorsSpec.post enc Tryz.prog Tryz.f8 false true false false) := by
  refine returnsInHanded_of_change_and (C := Tryz.checked) (X := fun w _ => laidMetH Tryz.prog laidG w) (fun _ _ _ hh h => h.of_heap hh) own started (by kernel_rfl) Tryz.func8
    (ChangeSpec.witness_shaped (enc := enc) (C := Tryz.checked) (os := os) (X := fun w _ => laidMetH Tryz.prog laidG w) false (World.doorLaid Tryz.prog 400 os) #[.slice none 0 0, .agg #[.int .u8 0, .int .u8 0, .int .u8 0, .int .u8 0, .int .u8 0, .int .u8 0, .int .u8 0, .int .u8 0, .string ByteArray.empty], .agg #[.int .u16 0, .int .u16 0, .int .u16 0, .int .u16 0]] 8 rfl (World.shaped_of_RefB (by kernel_rfl) (by kernel_rfl)) (by kernel_rfl) (by kernel_rfl) (by kernel_rfl) (g_met os _)) ?_
  intro W base args ds gs before hval0 hW hcnd hsz0 hL _
  have hsz : (DataW.weightsEach Tryz.prog (Tryz.f8.params.toList ++ Rows.bindsErrorsSpec.plain.varTypes Tryz.prog) (ds ++ gs)).all (· ≤ reachBytes) = true := hsz0
  have hval : ∀ (j : Nat) t v, Tryz.f8.params[j]? = some t → args[j]? = some v → Value.okWide Tryz.prog W .any base t v := hval0
  have hW' := hW
  obtain ⟨p, q, hA0, hV, rfl, hfz, hnd⟩ := hW
  have hA : DataW.TrodAll enc Tryz.prog W 0 (fun _ => true) true Tryz.f8.params.toList args.toList ds p := hA0
  rw [Tryz.params8] at hA hval hsz
  obtain ⟨v0, vs0, d0, ds0, p0, q0, hargs, rfl, rfl, h0, r0⟩ := trodAll_cons hA
  obtain ⟨v1, vs1, d1, ds1, p1, q1, rfl, rfl, rfl, h1, r1⟩ := trodAll_cons r0
  obtain ⟨v2, vs2, d2, ds2, p2, q2, rfl, rfl, rfl, h2, r2⟩ := trodAll_cons r1
  obtain ⟨rfl, rfl, rfl⟩ := trodAll_nil r2
  obtain rfl : args = #[v0, v1, v2] := by cases args; simp_all
  obtain ⟨rfl, rfl⟩ := trodVars_none hV
  have k0 := h0
  have lt0 : ∀ x ∈ p0, x.block < W.heap.size := by obtain ⟨m, hm⟩ := k0; exact DataW.trod_lt m _ _ _ hm
  have k1 := h1
  have lt1 : ∀ x ∈ p1, x.block < W.heap.size := by obtain ⟨m, hm⟩ := k1; exact DataW.trod_lt m _ _ _ hm
  have k2 := h2
  have lt2 : ∀ x ∈ p2, x.block < W.heap.size := by obtain ⟨m, hm⟩ := k2; exact DataW.trod_lt m _ _ _ hm
  obtain ⟨a0, len0, cap0, rfl⟩ := okWide_slice Tryz.underlying47 (hval 0 47 v0 rfl rfl)
  have ra0 := real_slice Tryz.underlying47 (hval 0 47 (.slice a0 len0 cap0) rfl rfl)
  obtain ⟨fuel0, hf0⟩ := h0
  simp only [Value.cells] at hf0
  obtain ⟨a0q, len0q, cap0q, z0, e0, w0⟩ := open_rulings (v := .slice a0 len0 cap0) hf0
  injection e0 with e0a e0b e0c
  subst e0a e0b e0c
  obtain ⟨cs1, rfl, hsz1⟩ := okWide_struct Tryz.underlying24 (hval 1 24 v1 rfl rfl)
  rw [show Tryz.prog.cellsOf 24 = 9 from by kernel_rfl] at hsz1
  obtain ⟨fuel1, hf1⟩ := h1
  simp only [Value.cells] at hf1
  obtain ⟨a1_0, qa1_0, wa1_0⟩ := leaf_int (leafAt_of (n := 8) (i := 0) (u := 5) (by kernel_rfl) hf1) Tryz.underlying5
  obtain ⟨a1_1, qa1_1, wa1_1⟩ := leaf_int (leafAt_of (n := 8) (i := 1) (u := 5) (by kernel_rfl) hf1) Tryz.underlying5
  obtain ⟨a1_2, qa1_2, wa1_2⟩ := leaf_int (leafAt_of (n := 8) (i := 2) (u := 5) (by kernel_rfl) hf1) Tryz.underlying5
  obtain ⟨a1_3, qa1_3, wa1_3⟩ := leaf_int (leafAt_of (n := 8) (i := 3) (u := 5) (by kernel_rfl) hf1) Tryz.underlying5
  obtain ⟨a1_4, qa1_4, wa1_4⟩ := leaf_int (leafAt_of (n := 8) (i := 4) (u := 5) (by kernel_rfl) hf1) Tryz.underlying5
  obtain ⟨a1_5, qa1_5, wa1_5⟩ := leaf_int (leafAt_of (n := 8) (i := 5) (u := 5) (by kernel_rfl) hf1) Tryz.underlying5
  obtain ⟨a1_6, qa1_6, wa1_6⟩ := leaf_int (leafAt_of (n := 8) (i := 6) (u := 5) (by kernel_rfl) hf1) Tryz.underlying5
  obtain ⟨a1_7, qa1_7, wa1_7⟩ := leaf_int (leafAt_of (n := 8) (i := 7) (u := 5) (by kernel_rfl) hf1) Tryz.underlying5
  obtain ⟨a1_8, qa1_8, wa1_8⟩ := leaf_string (leafAt_of (n := 8) (i := 8) (u := 9) (by kernel_rfl) hf1) Tryz.underlying9 (sized_at hsz (j := 1) (t := 24) rfl rfl)
  obtain rfl : cs1 = #[.int .u8 a1_0, .int .u8 a1_1, .int .u8 a1_2, .int .u8 a1_3, .int .u8 a1_4, .int .u8 a1_5, .int .u8 a1_6, .int .u8 a1_7, .string a1_8] := arr_ext hsz1 (fun j hj => by
    match j, hj with
    | 0, _ => exact qa1_0
    | 1, _ => exact qa1_1
    | 2, _ => exact qa1_2
    | 3, _ => exact qa1_3
    | 4, _ => exact qa1_4
    | 5, _ => exact qa1_5
    | 6, _ => exact qa1_6
    | 7, _ => exact qa1_7
    | 8, _ => exact qa1_8)
  obtain ⟨cs2, rfl, hsz2⟩ := okWide_array Tryz.underlying96 (hval 2 96 v2 rfl rfl)
  rw [show Tryz.prog.cellsOf 96 = 4 from by kernel_rfl] at hsz2
  obtain ⟨fuel2, hf2⟩ := h2
  simp only [Value.cells] at hf2
  obtain ⟨a2_0, qa2_0, wa2_0⟩ := leaf_int (leafAt_of (n := 8) (i := 0) (u := 29) (by kernel_rfl) hf2) Tryz.underlying29
  obtain ⟨a2_1, qa2_1, wa2_1⟩ := leaf_int (leafAt_of (n := 8) (i := 1) (u := 29) (by kernel_rfl) hf2) Tryz.underlying29
  obtain ⟨a2_2, qa2_2, wa2_2⟩ := leaf_int (leafAt_of (n := 8) (i := 2) (u := 29) (by kernel_rfl) hf2) Tryz.underlying29
  obtain ⟨a2_3, qa2_3, wa2_3⟩ := leaf_int (leafAt_of (n := 8) (i := 3) (u := 29) (by kernel_rfl) hf2) Tryz.underlying29
  obtain rfl : cs2 = #[.int .u16 a2_0, .int .u16 a2_1, .int .u16 a2_2, .int .u16 a2_3] := arr_ext hsz2 (fun j hj => by
    match j, hj with
    | 0, _ => exact qa2_0
    | 1, _ => exact qa2_1
    | 2, _ => exact qa2_2
    | 3, _ => exact qa2_3)
  clear hA0 hval0
  refine (BindsErrors_walk a0 len0 cap0 z0 a1_0 a1_1 a1_2 a1_3 a1_4 a1_5 a1_6 a1_7 a1_8 a2_0 a2_1 a2_2 a2_3 W (g_of_laid hL) w0 ra0 (bounds_u8 wa1_0) (bounds_u8 wa1_1) (bounds_u8 wa1_2) (bounds_u8 wa1_3) (bounds_u8 wa1_4) (bounds_u8 wa1_5) (bounds_u8 wa1_6) (bounds_u8 wa1_7) wa1_8 (bounds_u16 wa2_0) (bounds_u16 wa2_1) (bounds_u16 wa2_2) (bounds_u16 wa2_3)).mono fun e W' ⟨he, bel⟩ => ?_
  subst he
  exact ⟨_, rfl, _, _, _, [], _, [], hW', trodAll_mk1 (shut_bool Tryz.underlying4 _), (trodAll_cons_mk (Below.trod laidOut (by kernel_rfl) (of_decide_eq_true (by kernel_rfl)) k0 bel lt0) (trodAll_cons_mk (Below.trod laidOut (by kernel_rfl) (of_decide_eq_true (by kernel_rfl)) k1 bel lt1) (trodAll_cons_mk (Below.trod laidOut (by kernel_rfl) (of_decide_eq_true (by kernel_rfl)) k2 bel lt2) trodAll_mk0))), rfl, bel.frame _, fun h => by cases h⟩

theorem over : Rows.bindsErrorsRow.holds Tryz.pinned (OpenSpec.ofChange Rows.bindsErrorsSpec) :=
  OpenClaim.holds_of_wide 8 Tryz.f8 rfl rfl rfl rfl rfl rfl rfl ⟨rfl, rfl, rfl, rfl, rfl⟩ rfl rfl rfl rfl rfl (by kernel_rfl) Tryz.func8 (by kernel_rfl)
    (of_decide_eq_true (by kernel_rfl)) (by unfold Func.isWrapper; first | (rw [if_pos (by decide +kernel)]; kernel_rfl) | (rw [if_neg (by decide +kernel)]; exact ⟨rfl, rfl⟩))
    (fun os started H enc _ => lifted os started H enc)

/-- the row's statement -/
theorem row : Rows.BindsErrorsSaid := over
/-- the card -/
theorem proved : Rows.BindsErrorsCardSaid :=
  Claim7.holds_tied_plain_at .later [] [.data, .mapped, .mapped] true (true, "57424b3d5b7c1fd5207817385a7faa19d2dfd29491bde3495b8ca2d0452cb59b") false
    over (fun _ h => by cases h) (by kernel_rfl) (fun _ h => by cases h) bindsErrors_row_tie rfl ⟨rfl, rfl⟩ (by kernel_rfl) rfl
    (fun f fn hf hfn => by
      obtain rfl : f = 8 := Option.some.inj ((show Tryz.prog.funcNamed "porter/porterlaw20.BindsErrors" = some 8 by kernel_rfl).symm.trans hf) |>.symm
      obtain rfl : fn = Tryz.f8 := (Option.some.inj (Tryz.func8.symm.trans hfn)).symm
      exact ⟨by kernel_rfl, fun j t ht => by
        rw [Tryz.params8] at ht
        have hm : t ∈ [47, 24, 96] := by simpa using Array.mem_of_getElem? ht
        have hall : ([47, 24, 96].all fun u => !Tryz.prog.wantsStandIn u) = true := by kernel_rfl
        exact (show Tryz.prog.wantsStandIn t = false by simpa using List.all_eq_true.1 hall t hm)⟩)
    (by kernel_rfl)
#print axioms proved
end Go.Proofs.YtilfcikhipadpaaGreatDoor.lawBindsErrors
