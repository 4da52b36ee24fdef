/- RulesNew: the given statement, out of its walk. -/
import Derived.Test.YtbboajhdijabbaaLaw11w
import Derived.Test.YtbboajhdijabbaaLeaf
import Derived.Test.YtbboajhdijabbaaRows
import Derived.WalkKit
import Derived.ProofKit
import Derived.OpenShut
import Derived.ShutString
import Derived.ChangeOld
import Derived.Below
import Derived.SliceStrings
import Derived.SizedLaws
set_option linter.unusedVariables false
namespace Go.Proofs.Ytbboajhdijabbaa.lawRulesNew
open Go.ChangeShapes Go.WideShapes Go.ChangeAt Go.RowKit
open Go.ChangeMaps (open_string shut_string)

theorem own : ownKnob Try.prog.godebug = none := by kernel_rfl
theorem laidOut : laidOutB Try.prog = true := by kernel_rfl

set_option maxRecDepth 100000 in
theorem lifted (os : Os) (started : os.Started) (H : Type) (enc : TypeId × Value → H) :
    ReturnsInHanded {} Try.checked os 3 .any (Rows.rulesNewSpec.pre6 enc Try.prog Try.f3 Rows.rulesNewRow.domain false) (Rows.rulesNewSpec.post enc Try.prog Try.f3 false true false false) := by
  refine returnsInHanded_of_change_sized (C := Try.checked) own started (by kernel_rfl) Try.func3
    (ChangeSpec.witness6 (enc := enc) (C := Try.checked) false ⟨#[], #[.int .u32 0, .agg #[.int .u32 0, .int .i64 0], .agg #[.int .i64 0, .int .u8 0, .int .u32 0, .int .i64 0, .int .u32 0, .int .i64 0, .int .u32 0, .int .u16 0, .int .u16 0, .int .u32 0, .int .u16 0]], []⟩ 8 (by kernel_rfl) (by kernel_rfl) (by kernel_rfl) (by kernel_rfl)) ?_
  intro W base args ds gs before hval0 hW hcnd hsz0 _
  have hsz : (DataW.weightsEach Try.prog (Try.f3.params.toList ++ Rows.rulesNewSpec.plain.varTypes Try.prog) (ds ++ gs)).all (· ≤ reachBytes) = true := hsz0
  have hval : ∀ (j : Nat) t v, Try.f3.params[j]? = some t → args[j]? = some v → Value.okWide Try.prog W .any base t v := hval0
  have hW' := hW
  obtain ⟨p, q, hA0, hV, rfl, hfz, hnd⟩ := hW
  have hA : DataW.TrodAll enc Try.prog W 0 (fun _ => true) true Try.f3.params.toList args.toList ds p := hA0
  rw [Try.params3] at hA hval hsz
  obtain ⟨v0, vs0, d0, ds0, p0, q0, hargs, rfl, rfl, h0, r0⟩ := trodAll_cons hA
  obtain ⟨v1, vs1, d1, ds1, p1, q1, rfl, rfl, rfl, h1, r1⟩ := trodAll_cons r0
  obtain ⟨v2, vs2, d2, ds2, p2, q2, rfl, rfl, rfl, h2, r2⟩ := trodAll_cons r1
  obtain ⟨rfl, rfl, rfl⟩ := trodAll_nil r2
  obtain rfl : args = #[v0, v1, v2] := by cases args; simp_all
  obtain ⟨rfl, rfl⟩ := trodVars_none hV
  have k0 := h0
  have lt0 : ∀ x ∈ p0, x.block < W.heap.size := by obtain ⟨m, hm⟩ := k0; exact DataW.trod_lt m _ _ _ hm
  have k1 := h1
  have lt1 : ∀ x ∈ p1, x.block < W.heap.size := by obtain ⟨m, hm⟩ := k1; exact DataW.trod_lt m _ _ _ hm
  have k2 := h2
  have lt2 : ∀ x ∈ p2, x.block < W.heap.size := by obtain ⟨m, hm⟩ := k2; exact DataW.trod_lt m _ _ _ hm
  obtain ⟨a0, rfl, rfl, rfl, w0⟩ := open_int Try.underlying23 (hval 0 23 v0 rfl rfl) h0
  obtain ⟨cs1, rfl, hsz1⟩ := okWide_struct Try.underlying25 (hval 1 25 v1 rfl rfl)
  rw [show Try.prog.cellsOf 25 = 2 from by kernel_rfl] at hsz1
  obtain ⟨fuel1, hf1⟩ := h1
  simp only [Value.cells] at hf1
  obtain ⟨a1_0, qa1_0, wa1_0⟩ := leaf_int (leafAt_of (n := 8) (i := 0) (u := 23) (by kernel_rfl) hf1) Try.underlying23
  obtain ⟨a1_1, qa1_1, wa1_1⟩ := leaf_int (leafAt_of (n := 8) (i := 1) (u := 3) (by kernel_rfl) hf1) Try.underlying3
  obtain rfl : cs1 = #[.int .u32 a1_0, .int .i64 a1_1] := arr_ext hsz1 (fun j hj => by
    match j, hj with
    | 0, _ => exact qa1_0
    | 1, _ => exact qa1_1)
  obtain ⟨cs2, rfl, hsz2⟩ := okWide_struct Try.underlying30 (hval 2 30 v2 rfl rfl)
  rw [show Try.prog.cellsOf 30 = 11 from by kernel_rfl] at hsz2
  obtain ⟨fuel2, hf2⟩ := h2
  simp only [Value.cells] at hf2
  obtain ⟨a2_0, qa2_0, wa2_0⟩ := leaf_int (leafAt_of (n := 8) (i := 0) (u := 3) (by kernel_rfl) hf2) Try.underlying3
  obtain ⟨a2_1, qa2_1, wa2_1⟩ := leaf_int (leafAt_of (n := 8) (i := 1) (u := 5) (by kernel_rfl) hf2) Try.underlying5
  obtain ⟨a2_2, qa2_2, wa2_2⟩ := leaf_int (leafAt_of (n := 8) (i := 2) (u := 23) (by kernel_rfl) hf2) Try.underlying23
  obtain ⟨a2_3, qa2_3, wa2_3⟩ := leaf_int (leafAt_of (n := 8) (i := 3) (u := 3) (by kernel_rfl) hf2) Try.underlying3
  obtain ⟨a2_4, qa2_4, wa2_4⟩ := leaf_int (leafAt_of (n := 8) (i := 4) (u := 23) (by kernel_rfl) hf2) Try.underlying23
  obtain ⟨a2_5, qa2_5, wa2_5⟩ := leaf_int (leafAt_of (n := 8) (i := 5) (u := 3) (by kernel_rfl) hf2) Try.underlying3
  obtain ⟨a2_6, qa2_6, wa2_6⟩ := leaf_int (leafAt_of (n := 8) (i := 6) (u := 23) (by kernel_rfl) hf2) Try.underlying23
  obtain ⟨a2_7, qa2_7, wa2_7⟩ := leaf_int (leafAt_of (n := 8) (i := 7) (u := 26) (by kernel_rfl) hf2) Try.underlying26
  obtain ⟨a2_8, qa2_8, wa2_8⟩ := leaf_int (leafAt_of (n := 8) (i := 8) (u := 26) (by kernel_rfl) hf2) Try.underlying26
  obtain ⟨a2_9, qa2_9, wa2_9⟩ := leaf_int (leafAt_of (n := 8) (i := 9) (u := 23) (by kernel_rfl) hf2) Try.underlying23
  obtain ⟨a2_10, qa2_10, wa2_10⟩ := leaf_int (leafAt_of (n := 8) (i := 10) (u := 26) (by kernel_rfl) hf2) Try.underlying26
  obtain rfl : cs2 = #[.int .i64 a2_0, .int .u8 a2_1, .int .u32 a2_2, .int .i64 a2_3, .int .u32 a2_4, .int .i64 a2_5, .int .u32 a2_6, .int .u16 a2_7, .int .u16 a2_8, .int .u32 a2_9, .int .u16 a2_10] := arr_ext hsz2 (fun j hj => by
    match j, hj with
    | 0, _ => exact qa2_0
    | 1, _ => exact qa2_1
    | 2, _ => exact qa2_2
    | 3, _ => exact qa2_3
    | 4, _ => exact qa2_4
    | 5, _ => exact qa2_5
    | 6, _ => exact qa2_6
    | 7, _ => exact qa2_7
    | 8, _ => exact qa2_8
    | 9, _ => exact qa2_9
    | 10, _ => exact qa2_10)
  clear hA0 hval0
  refine (RulesNew_walk a0 a1_0 a1_1 a2_0 a2_1 a2_2 a2_3 a2_4 a2_5 a2_6 a2_7 a2_8 a2_9 a2_10 W (bounds_u32 w0) (bounds_u32 wa1_0) (bounds_i64 wa1_1) (bounds_i64 wa2_0) (bounds_u8 wa2_1) (bounds_u32 wa2_2) (bounds_i64 wa2_3) (bounds_u32 wa2_4) (bounds_i64 wa2_5) (bounds_u32 wa2_6) (bounds_u16 wa2_7) (bounds_u16 wa2_8) (bounds_u32 wa2_9) (bounds_u16 wa2_10)).mono fun e W' ⟨he, bel⟩ => ?_
  subst he
  exact ⟨_, rfl, _, _, _, [], _, [], hW', trodAll_mk1 (shut_bool Try.underlying4 _), (trodAll_cons_mk (Below.trod laidOut (by kernel_rfl) (of_decide_eq_true (by kernel_rfl)) k0 bel lt0) (trodAll_cons_mk (Below.trod laidOut (by kernel_rfl) (of_decide_eq_true (by kernel_rfl)) k1 bel lt1) (trodAll_cons_mk (Below.trod laidOut (by kernel_rfl) (of_decide_eq_true (by kernel_rfl)) k2 bel lt2) trodAll_mk0))), rfl, bel.frame _, fun h => by cases h⟩

theorem over : Rows.rulesNewRow.holds Try.pinned (OpenSpec.ofChange Rows.rulesNewSpec) :=
  OpenClaim.holds_of_wide 3 Try.f3 rfl rfl rfl rfl rfl rfl rfl ⟨rfl, rfl, rfl, rfl, rfl⟩ rfl rfl rfl rfl rfl (by kernel_rfl) Try.func3 (by kernel_rfl)
    (of_decide_eq_true (by kernel_rfl)) (by unfold Func.isWrapper; first | (rw [if_pos (by decide +kernel)]; kernel_rfl) | (rw [if_neg (by decide +kernel)]; exact ⟨rfl, rfl⟩))
    (fun os started H enc _ => lifted os started H enc)

/-- the row's statement -/
theorem proved : Rows.RulesNewSaid := over
#print axioms proved
end Go.Proofs.Ytbboajhdijabbaa.lawRulesNew
