/- BindsSee: the given statement, out of its walk. -/
import Derived.Test.YtilfcikhipadpaaGreatDoorK37
import Derived.Test.YtilfcikhipadpaaGreatDoorK38
import Derived.Test.YtilfcikhipadpaaGreatDoorCards
import Derived.Test.YtilfcikhipadpaaGreatDoorTie
import Derived.Handed
import Derived.LaidMore
import Derived.Stop.Joined
import Derived.Test.YtilfcikhipadpaaGreatDoorRows
import Derived.WalkKit
import Derived.ProofKit
import Derived.OpenShut
import Derived.ShutString
import Derived.ChangeOld
import Derived.Below
import Derived.SliceStrings
import Derived.SizedLaws
set_option linter.unusedVariables false
namespace Go.Proofs.YtilfcikhipadpaaGreatDoor.lawBindsSee
open Go.ChangeShapes Go.WideShapes Go.ChangeAt Go.RowKit
open Go.ChangeMaps (open_string shut_string)

theorem own : ownKnob Tryz.prog.godebug = none := by kernel_rfl
theorem laidOut : laidOutB Tryz.prog = true := by kernel_rfl

set_option maxRecDepth 100000 in
theorem lifted (os : Os) (started : os.Started) (H : Type) (enc : TypeId × Value → H) :
    ReturnsInHanded {} Tryz.checked os 3 .any (fun w args => (Rows.bindsSeeSpec.pre enc Tryz.prog Tryz.f3 Rows.bindsSeeRow.domain false w args ∧ laidMetH Tryz.prog laidB w) ∧ sizedMet enc Tryz.prog Tryz.f3 (OpenSpec.ofChange Rows.bindsSeeSpec) false w args) (Rows.bindsSeeSpec.post enc Tryz.prog Tryz.f3 false true false false) := by
  refine returnsInHanded_of_change_and (C := Tryz.checked) (X := fun w _ => laidMetH Tryz.prog laidB w) (fun _ _ _ hh h => h.of_heap hh) own started (by kernel_rfl) Tryz.func3
    (ChangeSpec.witness_shaped (enc := enc) (C := Tryz.checked) (os := os) (X := fun w _ => laidMetH Tryz.prog laidB w) false (World.doorLaid Tryz.prog 400 os) #[.agg #[.int .u8 0, .int .u8 0, .int .u8 0, .int .u8 0, .int .u8 0, .int .u8 0, .int .u8 0, .int .u8 0, .string ByteArray.empty]] 8 rfl (World.shaped_of_RefB (by kernel_rfl) (by kernel_rfl)) (by kernel_rfl) (by kernel_rfl) (by kernel_rfl) (b_met os _)) ?_
  intro W base args ds gs before hval0 hW hcnd hsz0 hL _
  have hsz : (DataW.weightsEach Tryz.prog (Tryz.f3.params.toList ++ Rows.bindsSeeSpec.plain.varTypes Tryz.prog) (ds ++ gs)).all (· ≤ reachBytes) = true := hsz0
  have hval : ∀ (j : Nat) t v, Tryz.f3.params[j]? = some t → args[j]? = some v → Value.okWide Tryz.prog W .any base t v := hval0
  have hW' := hW
  obtain ⟨p, q, hA0, hV, rfl, hfz, hnd⟩ := hW
  have hA : DataW.TrodAll enc Tryz.prog W 0 (fun _ => true) true Tryz.f3.params.toList args.toList ds p := hA0
  rw [Tryz.params3] at hA hval hsz
  obtain ⟨v0, vs0, d0, ds0, p0, q0, hargs, rfl, rfl, h0, r0⟩ := trodAll_cons hA
  obtain ⟨rfl, rfl, rfl⟩ := trodAll_nil r0
  obtain rfl : args = #[v0] := by cases args; simp_all
  obtain ⟨rfl, rfl⟩ := trodVars_none hV
  have k0 := h0
  have lt0 : ∀ x ∈ p0, x.block < W.heap.size := by obtain ⟨m, hm⟩ := k0; exact DataW.trod_lt m _ _ _ hm
  obtain ⟨cs0, rfl, hsz0⟩ := okWide_struct Tryz.underlying24 (hval 0 24 v0 rfl rfl)
  rw [show Tryz.prog.cellsOf 24 = 9 from by kernel_rfl] at hsz0
  obtain ⟨fuel0, hf0⟩ := h0
  simp only [Value.cells] at hf0
  obtain ⟨a0_0, qa0_0, wa0_0⟩ := leaf_int (leafAt_of (n := 8) (i := 0) (u := 5) (by kernel_rfl) hf0) Tryz.underlying5
  obtain ⟨a0_1, qa0_1, wa0_1⟩ := leaf_int (leafAt_of (n := 8) (i := 1) (u := 5) (by kernel_rfl) hf0) Tryz.underlying5
  obtain ⟨a0_2, qa0_2, wa0_2⟩ := leaf_int (leafAt_of (n := 8) (i := 2) (u := 5) (by kernel_rfl) hf0) Tryz.underlying5
  obtain ⟨a0_3, qa0_3, wa0_3⟩ := leaf_int (leafAt_of (n := 8) (i := 3) (u := 5) (by kernel_rfl) hf0) Tryz.underlying5
  obtain ⟨a0_4, qa0_4, wa0_4⟩ := leaf_int (leafAt_of (n := 8) (i := 4) (u := 5) (by kernel_rfl) hf0) Tryz.underlying5
  obtain ⟨a0_5, qa0_5, wa0_5⟩ := leaf_int (leafAt_of (n := 8) (i := 5) (u := 5) (by kernel_rfl) hf0) Tryz.underlying5
  obtain ⟨a0_6, qa0_6, wa0_6⟩ := leaf_int (leafAt_of (n := 8) (i := 6) (u := 5) (by kernel_rfl) hf0) Tryz.underlying5
  obtain ⟨a0_7, qa0_7, wa0_7⟩ := leaf_int (leafAt_of (n := 8) (i := 7) (u := 5) (by kernel_rfl) hf0) Tryz.underlying5
  obtain ⟨a0_8, qa0_8, wa0_8⟩ := leaf_string (leafAt_of (n := 8) (i := 8) (u := 9) (by kernel_rfl) hf0) Tryz.underlying9 (sized_at hsz (j := 0) (t := 24) rfl rfl)
  obtain rfl : cs0 = #[.int .u8 a0_0, .int .u8 a0_1, .int .u8 a0_2, .int .u8 a0_3, .int .u8 a0_4, .int .u8 a0_5, .int .u8 a0_6, .int .u8 a0_7, .string a0_8] := arr_ext hsz0 (fun j hj => by
    match j, hj with
    | 0, _ => exact qa0_0
    | 1, _ => exact qa0_1
    | 2, _ => exact qa0_2
    | 3, _ => exact qa0_3
    | 4, _ => exact qa0_4
    | 5, _ => exact qa0_5
    | 6, _ => exact qa0_6
    | 7, _ => exact qa0_7
    | 8, _ => exact qa0_8)
  clear hA0 hval0
  refine (BindsSee_walk a0_0 a0_1 a0_2 a0_3 a0_4 a0_5 a0_6 a0_7 a0_8 W (b_of_laid hL) (bounds_u8 wa0_0) (bounds_u8 wa0_1) (bounds_u8 wa0_2) (bounds_u8 wa0_3) (bounds_u8 wa0_4) (bounds_u8 wa0_5) (bounds_u8 wa0_6) (bounds_u8 wa0_7) wa0_8).mono fun e W' ⟨he, bel⟩ => ?_
  subst he
  exact ⟨_, rfl, _, _, _, [], _, [], hW', trodAll_mk1 (shut_bool Tryz.underlying4 _), (trodAll_cons_mk (Below.trod laidOut (by kernel_rfl) (of_decide_eq_true (by kernel_rfl)) k0 bel lt0) trodAll_mk0), rfl, bel.frame _, fun h => by cases h⟩

theorem over : Rows.bindsSeeRow.holds Tryz.pinned (OpenSpec.ofChange Rows.bindsSeeSpec) :=
  OpenClaim.holds_of_wide 3 Tryz.f3 rfl rfl rfl rfl rfl rfl rfl ⟨rfl, rfl, rfl, rfl, rfl⟩ rfl rfl rfl rfl rfl (by kernel_rfl) Tryz.func3 (by kernel_rfl)
    (of_decide_eq_true (by kernel_rfl)) (by unfold Func.isWrapper; first | (rw [if_pos (by decide +kernel)]; kernel_rfl) | (rw [if_neg (by decide +kernel)]; exact ⟨rfl, rfl⟩))
    (fun os started H enc _ => lifted os started H enc)

/-- the row's statement -/
theorem row : Rows.BindsSeeSaid := over
/-- the card -/
theorem proved : Rows.BindsSeeCardSaid :=
  Claim7.holds_tied_plain_at .later [] [.data, .mapped] true (true, "57424b3d5b7c1fd5207817385a7faa19d2dfd29491bde3495b8ca2d0452cb59b") false
    over (fun _ h => by cases h) (by kernel_rfl) (fun _ h => by cases h) bindsSee_row_tie rfl ⟨rfl, rfl⟩ (by kernel_rfl) rfl
    (fun f fn hf hfn => by
      obtain rfl : f = 3 := Option.some.inj ((show Tryz.prog.funcNamed "porter/porterlaw20.BindsSee" = some 3 by kernel_rfl).symm.trans hf) |>.symm
      obtain rfl : fn = Tryz.f3 := (Option.some.inj (Tryz.func3.symm.trans hfn)).symm
      exact ⟨by kernel_rfl, fun j t ht => by
        rw [Tryz.params3] at ht
        have hm : t ∈ [24] := by simpa using Array.mem_of_getElem? ht
        have hall : ([24].all fun u => !Tryz.prog.wantsStandIn u) = true := by kernel_rfl
        exact (show Tryz.prog.wantsStandIn t = false by simpa using List.all_eq_true.1 hall t hm)⟩)
    (by kernel_rfl)
#print axioms proved
end Go.Proofs.YtilfcikhipadpaaGreatDoor.lawBindsSee
