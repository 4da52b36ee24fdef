/- RulesNone: the given statement, out of its walk. -/
import Derived.Test.YtbboajhdijabbaaLaw11n
import Derived.Test.YtbboajhdijabbaaLeaf
import Derived.Test.YtbboajhdijabbaaRows
import Derived.WalkKit
import Derived.ProofKit
import Derived.OpenShut
import Derived.ShutString
import Derived.ChangeOld
import Derived.Below
import Derived.SliceStrings
import Derived.SizedLaws
set_option linter.unusedVariables false
namespace Go.Proofs.Ytbboajhdijabbaa.lawRulesNone
open Go.ChangeShapes Go.WideShapes Go.ChangeAt Go.RowKit
open Go.ChangeMaps (open_string shut_string)

theorem own : ownKnob Try.prog.godebug = none := by kernel_rfl
theorem laidOut : laidOutB Try.prog = true := by kernel_rfl

set_option maxRecDepth 100000 in
theorem lifted (os : Os) (started : os.Started) (H : Type) (enc : TypeId × Value → H) :
    ReturnsInHanded {} Try.checked os 8 .any (Rows.rulesNoneSpec.pre6 enc Try.prog Try.f8 Rows.rulesNoneRow.domain false) (Rows.rulesNoneSpec.post enc Try.prog Try.f8 false true false false) := by
  refine returnsInHanded_of_change_sized (C := Try.checked) own started (by kernel_rfl) Try.func8
    (ChangeSpec.witness6 (enc := enc) (C := Try.checked) false ⟨#[], #[.agg #[.int .i64 0, .int .u8 0, .int .u32 0, .int .i64 0, .int .u32 0, .int .i64 0, .int .u32 0, .int .u16 0, .int .u16 0, .int .u32 0, .int .u16 0], .int .i64 0, .agg #[.int .u8 0, .int .u32 0, .int .u16 0, .int .u32 0, .int .u16 0]], []⟩ 8 (by kernel_rfl) (by kernel_rfl) (by kernel_rfl) (by kernel_rfl)) ?_
  intro W base args ds gs before hval0 hW hcnd hsz0 _
  have hsz : (DataW.weightsEach Try.prog (Try.f8.params.toList ++ Rows.rulesNoneSpec.plain.varTypes Try.prog) (ds ++ gs)).all (· ≤ reachBytes) = true := hsz0
  have hval : ∀ (j : Nat) t v, Try.f8.params[j]? = some t → args[j]? = some v → Value.okWide Try.prog W .any base t v := hval0
  have hW' := hW
  obtain ⟨p, q, hA0, hV, rfl, hfz, hnd⟩ := hW
  have hA : DataW.TrodAll enc Try.prog W 0 (fun _ => true) true Try.f8.params.toList args.toList ds p := hA0
  rw [Try.params8] at hA hval hsz
  obtain ⟨v0, vs0, d0, ds0, p0, q0, hargs, rfl, rfl, h0, r0⟩ := trodAll_cons hA
  obtain ⟨v1, vs1, d1, ds1, p1, q1, rfl, rfl, rfl, h1, r1⟩ := trodAll_cons r0
  obtain ⟨v2, vs2, d2, ds2, p2, q2, rfl, rfl, rfl, h2, r2⟩ := trodAll_cons r1
  obtain ⟨rfl, rfl, rfl⟩ := trodAll_nil r2
  obtain rfl : args = #[v0, v1, v2] := by cases args; simp_all
  obtain ⟨rfl, rfl⟩ := trodVars_none hV
  have k0 := h0
  have lt0 : ∀ x ∈ p0, x.block < W.heap.size := by obtain ⟨m, hm⟩ := k0; exact DataW.trod_lt m _ _ _ hm
  have k1 := h1
  have lt1 : ∀ x ∈ p1, x.block < W.heap.size := by obtain ⟨m, hm⟩ := k1; exact DataW.trod_lt m _ _ _ hm
  have k2 := h2
  have lt2 : ∀ x ∈ p2, x.block < W.heap.size := by obtain ⟨m, hm⟩ := k2; exact DataW.trod_lt m _ _ _ hm
  obtain ⟨cs0, rfl, hsz0⟩ := okWide_struct Try.underlying30 (hval 0 30 v0 rfl rfl)
  rw [show Try.prog.cellsOf 30 = 11 from by kernel_rfl] at hsz0
  obtain ⟨fuel0, hf0⟩ := h0
  simp only [Value.cells] at hf0
  obtain ⟨a0_0, qa0_0, wa0_0⟩ := leaf_int (leafAt_of (n := 8) (i := 0) (u := 3) (by kernel_rfl) hf0) Try.underlying3
  obtain ⟨a0_1, qa0_1, wa0_1⟩ := leaf_int (leafAt_of (n := 8) (i := 1) (u := 5) (by kernel_rfl) hf0) Try.underlying5
  obtain ⟨a0_2, qa0_2, wa0_2⟩ := leaf_int (leafAt_of (n := 8) (i := 2) (u := 23) (by kernel_rfl) hf0) Try.underlying23
  obtain ⟨a0_3, qa0_3, wa0_3⟩ := leaf_int (leafAt_of (n := 8) (i := 3) (u := 3) (by kernel_rfl) hf0) Try.underlying3
  obtain ⟨a0_4, qa0_4, wa0_4⟩ := leaf_int (leafAt_of (n := 8) (i := 4) (u := 23) (by kernel_rfl) hf0) Try.underlying23
  obtain ⟨a0_5, qa0_5, wa0_5⟩ := leaf_int (leafAt_of (n := 8) (i := 5) (u := 3) (by kernel_rfl) hf0) Try.underlying3
  obtain ⟨a0_6, qa0_6, wa0_6⟩ := leaf_int (leafAt_of (n := 8) (i := 6) (u := 23) (by kernel_rfl) hf0) Try.underlying23
  obtain ⟨a0_7, qa0_7, wa0_7⟩ := leaf_int (leafAt_of (n := 8) (i := 7) (u := 26) (by kernel_rfl) hf0) Try.underlying26
  obtain ⟨a0_8, qa0_8, wa0_8⟩ := leaf_int (leafAt_of (n := 8) (i := 8) (u := 26) (by kernel_rfl) hf0) Try.underlying26
  obtain ⟨a0_9, qa0_9, wa0_9⟩ := leaf_int (leafAt_of (n := 8) (i := 9) (u := 23) (by kernel_rfl) hf0) Try.underlying23
  obtain ⟨a0_10, qa0_10, wa0_10⟩ := leaf_int (leafAt_of (n := 8) (i := 10) (u := 26) (by kernel_rfl) hf0) Try.underlying26
  obtain rfl : cs0 = #[.int .i64 a0_0, .int .u8 a0_1, .int .u32 a0_2, .int .i64 a0_3, .int .u32 a0_4, .int .i64 a0_5, .int .u32 a0_6, .int .u16 a0_7, .int .u16 a0_8, .int .u32 a0_9, .int .u16 a0_10] := arr_ext hsz0 (fun j hj => by
    match j, hj with
    | 0, _ => exact qa0_0
    | 1, _ => exact qa0_1
    | 2, _ => exact qa0_2
    | 3, _ => exact qa0_3
    | 4, _ => exact qa0_4
    | 5, _ => exact qa0_5
    | 6, _ => exact qa0_6
    | 7, _ => exact qa0_7
    | 8, _ => exact qa0_8
    | 9, _ => exact qa0_9
    | 10, _ => exact qa0_10)
  obtain ⟨a1, rfl, rfl, rfl, w1⟩ := open_int Try.underlying3 (hval 1 3 v1 rfl rfl) h1
  obtain ⟨cs2, rfl, hsz2⟩ := okWide_struct Try.underlying49 (hval 2 49 v2 rfl rfl)
  rw [show Try.prog.cellsOf 49 = 5 from by kernel_rfl] at hsz2
  obtain ⟨fuel2, hf2⟩ := h2
  simp only [Value.cells] at hf2
  obtain ⟨a2_0, qa2_0, wa2_0⟩ := leaf_int (leafAt_of (n := 8) (i := 0) (u := 5) (by kernel_rfl) hf2) Try.underlying5
  obtain ⟨a2_1, qa2_1, wa2_1⟩ := leaf_int (leafAt_of (n := 8) (i := 1) (u := 23) (by kernel_rfl) hf2) Try.underlying23
  obtain ⟨a2_2, qa2_2, wa2_2⟩ := leaf_int (leafAt_of (n := 8) (i := 2) (u := 26) (by kernel_rfl) hf2) Try.underlying26
  obtain ⟨a2_3, qa2_3, wa2_3⟩ := leaf_int (leafAt_of (n := 8) (i := 3) (u := 23) (by kernel_rfl) hf2) Try.underlying23
  obtain ⟨a2_4, qa2_4, wa2_4⟩ := leaf_int (leafAt_of (n := 8) (i := 4) (u := 26) (by kernel_rfl) hf2) Try.underlying26
  obtain rfl : cs2 = #[.int .u8 a2_0, .int .u32 a2_1, .int .u16 a2_2, .int .u32 a2_3, .int .u16 a2_4] := arr_ext hsz2 (fun j hj => by
    match j, hj with
    | 0, _ => exact qa2_0
    | 1, _ => exact qa2_1
    | 2, _ => exact qa2_2
    | 3, _ => exact qa2_3
    | 4, _ => exact qa2_4)
  clear hA0 hval0
  refine (RulesNone_walk a0_0 a0_1 a0_2 a0_3 a0_4 a0_5 a0_6 a0_7 a0_8 a0_9 a0_10 a1 a2_0 a2_1 a2_2 a2_3 a2_4 W (bounds_i64 wa0_0) (bounds_u8 wa0_1) (bounds_u32 wa0_2) (bounds_i64 wa0_3) (bounds_u32 wa0_4) (bounds_i64 wa0_5) (bounds_u32 wa0_6) (bounds_u16 wa0_7) (bounds_u16 wa0_8) (bounds_u32 wa0_9) (bounds_u16 wa0_10) (bounds_i64 w1) (bounds_u8 wa2_0) (bounds_u32 wa2_1) (bounds_u16 wa2_2) (bounds_u32 wa2_3) (bounds_u16 wa2_4)).mono fun e W' ⟨he, bel⟩ => ?_
  subst he
  exact ⟨_, rfl, _, _, _, [], _, [], hW', trodAll_mk1 (shut_bool Try.underlying4 _), (trodAll_cons_mk (Below.trod laidOut (by kernel_rfl) (of_decide_eq_true (by kernel_rfl)) k0 bel lt0) (trodAll_cons_mk (Below.trod laidOut (by kernel_rfl) (of_decide_eq_true (by kernel_rfl)) k1 bel lt1) (trodAll_cons_mk (Below.trod laidOut (by kernel_rfl) (of_decide_eq_true (by kernel_rfl)) k2 bel lt2) trodAll_mk0))), rfl, bel.frame _, fun h => by cases h⟩

theorem over : Rows.rulesNoneRow.holds Try.pinned (OpenSpec.ofChange Rows.rulesNoneSpec) :=
  OpenClaim.holds_of_wide 8 Try.f8 rfl rfl rfl rfl rfl rfl rfl ⟨rfl, rfl, rfl, rfl, rfl⟩ rfl rfl rfl rfl rfl (by kernel_rfl) Try.func8 (by kernel_rfl)
    (of_decide_eq_true (by kernel_rfl)) (by unfold Func.isWrapper; first | (rw [if_pos (by decide +kernel)]; kernel_rfl) | (rw [if_neg (by decide +kernel)]; exact ⟨rfl, rfl⟩))
    (fun os started H enc _ => lifted os started H enc)

/-- the row's statement -/
theorem proved : Rows.RulesNoneSaid := over
#print axioms proved
end Go.Proofs.Ytbboajhdijabbaa.lawRulesNone
