/- EmbedsBack: the given statement, out of its walk. -/
import Derived.Test.YtjeaknipmdfkdaaGreatDoorK38
import Derived.Test.YtjeaknipmdfkdaaGreatDoorK32
import Derived.Test.YtjeaknipmdfkdaaGreatDoorCards
import Derived.Test.YtjeaknipmdfkdaaGreatDoorTie
import Derived.Handed
import Derived.LaidMore
import Derived.Stop.Joined
import Derived.Test.YtjeaknipmdfkdaaGreatDoorRows
import Derived.WalkKit
import Derived.ProofKit
import Derived.OpenShut
import Derived.ShutString
import Derived.ChangeOld
import Derived.Below
import Derived.SliceStrings
import Derived.SizedLaws
set_option linter.unusedVariables false
namespace Go.Proofs.YtjeaknipmdfkdaaGreatDoor.lawEmbedsBack
open Go.ChangeShapes Go.WideShapes Go.ChangeAt Go.RowKit
open Go.ChangeMaps (open_string shut_string)

theorem own : ownKnob Tryz.prog.godebug = none := by kernel_rfl
theorem laidOut : laidOutB Tryz.prog = true := by kernel_rfl

set_option maxRecDepth 100000 in
theorem lifted (os : Os) (started : os.Started) (H : Type) (enc : TypeId × Value → H) :
    ReturnsInHanded {} Tryz.checked os 6 .any (fun w args => (Rows.embedsBackSpec.pre enc Tryz.prog Tryz.f6 Rows.embedsBackRow.domain false w args ∧ laidMetH Tryz.prog laidTabs w) ∧ sizedMet enc Tryz.prog Tryz.f6 (OpenSpec.ofChange Rows.embedsBackSpec) false w args) (Rows.embedsBackSpec.post enc Tryz.prog Tryz.f6 false true false false) := by
  refine returnsInHanded_of_change_and (C := Tryz.checked) (X := fun w _ => laidMetH Tryz.prog laidTabs w) (fun _ _ _ hh h => h.of_heap hh) own started (by kernel_rfl) Tryz.func6
    (ChangeSpec.witness_shaped (enc := enc) (C := Tryz.checked) (os := os) (X := fun w _ => laidMetH Tryz.prog laidTabs w) false (World.doorLaid Tryz.prog 400 os) #[.string ByteArray.empty, .agg #[.int .u32 0, .int .u16 0, .int .u32 0, .int .u16 0, .int .u32 0, .int .u16 0, .int .u32 0, .int .u16 0]] 8 rfl (World.shaped_of_RefB (by kernel_rfl) (by kernel_rfl)) (by kernel_rfl) (by kernel_rfl) (by kernel_rfl) (tabs_met os _)) ?_
  intro W base args ds gs before hval0 hW hcnd hsz0 hL _
  have hsz : (DataW.weightsEach Tryz.prog (Tryz.f6.params.toList ++ Rows.embedsBackSpec.plain.varTypes Tryz.prog) (ds ++ gs)).all (· ≤ reachBytes) = true := hsz0
  have hval : ∀ (j : Nat) t v, Tryz.f6.params[j]? = some t → args[j]? = some v → Value.okWide Tryz.prog W .any base t v := hval0
  have hW' := hW
  obtain ⟨p, q, hA0, hV, rfl, hfz, hnd⟩ := hW
  have hA : DataW.TrodAll enc Tryz.prog W 0 (fun _ => true) true Tryz.f6.params.toList args.toList ds p := hA0
  rw [Tryz.params6] at hA hval hsz
  obtain ⟨v0, vs0, d0, ds0, p0, q0, hargs, rfl, rfl, h0, r0⟩ := trodAll_cons hA
  obtain ⟨v1, vs1, d1, ds1, p1, q1, rfl, rfl, rfl, h1, r1⟩ := trodAll_cons r0
  obtain ⟨rfl, rfl, rfl⟩ := trodAll_nil r1
  obtain rfl : args = #[v0, v1] := by cases args; simp_all
  obtain ⟨rfl, rfl⟩ := trodVars_none hV
  have k0 := h0
  have lt0 : ∀ x ∈ p0, x.block < W.heap.size := by obtain ⟨m, hm⟩ := k0; exact DataW.trod_lt m _ _ _ hm
  have k1 := h1
  have lt1 : ∀ x ∈ p1, x.block < W.heap.size := by obtain ⟨m, hm⟩ := k1; exact DataW.trod_lt m _ _ _ hm
  obtain ⟨a0, rfl, rfl, rfl, w0⟩ := open_string Tryz.underlying9 (hval 0 9 v0 rfl rfl) h0
  have z0 : a0.size ≤ 140737488351232 := sized_string hsz (j := 0) (t := 9) rfl rfl
  obtain ⟨cs1, rfl, hsz1⟩ := okWide_struct Tryz.underlying30 (hval 1 30 v1 rfl rfl)
  rw [show Tryz.prog.cellsOf 30 = 8 from by kernel_rfl] at hsz1
  obtain ⟨fuel1, hf1⟩ := h1
  simp only [Value.cells] at hf1
  obtain ⟨a1_0, qa1_0, wa1_0⟩ := leaf_int (leafAt_of (n := 8) (i := 0) (u := 23) (by kernel_rfl) hf1) Tryz.underlying23
  obtain ⟨a1_1, qa1_1, wa1_1⟩ := leaf_int (leafAt_of (n := 8) (i := 1) (u := 24) (by kernel_rfl) hf1) Tryz.underlying24
  obtain ⟨a1_2, qa1_2, wa1_2⟩ := leaf_int (leafAt_of (n := 8) (i := 2) (u := 23) (by kernel_rfl) hf1) Tryz.underlying23
  obtain ⟨a1_3, qa1_3, wa1_3⟩ := leaf_int (leafAt_of (n := 8) (i := 3) (u := 24) (by kernel_rfl) hf1) Tryz.underlying24
  obtain ⟨a1_4, qa1_4, wa1_4⟩ := leaf_int (leafAt_of (n := 8) (i := 4) (u := 23) (by kernel_rfl) hf1) Tryz.underlying23
  obtain ⟨a1_5, qa1_5, wa1_5⟩ := leaf_int (leafAt_of (n := 8) (i := 5) (u := 24) (by kernel_rfl) hf1) Tryz.underlying24
  obtain ⟨a1_6, qa1_6, wa1_6⟩ := leaf_int (leafAt_of (n := 8) (i := 6) (u := 23) (by kernel_rfl) hf1) Tryz.underlying23
  obtain ⟨a1_7, qa1_7, wa1_7⟩ := leaf_int (leafAt_of (n := 8) (i := 7) (u := 24) (by kernel_rfl) hf1) Tryz.underlying24
  obtain rfl : cs1 = #[.int .u32 a1_0, .int .u16 a1_1, .int .u32 a1_2, .int .u16 a1_3, .int .u32 a1_4, .int .u16 a1_5, .int .u32 a1_6, .int .u16 a1_7] := arr_ext hsz1 (fun j hj => by
    match j, hj with
    | 0, _ => exact qa1_0
    | 1, _ => exact qa1_1
    | 2, _ => exact qa1_2
    | 3, _ => exact qa1_3
    | 4, _ => exact qa1_4
    | 5, _ => exact qa1_5
    | 6, _ => exact qa1_6
    | 7, _ => exact qa1_7)
  clear hA0 hval0
  refine (EmbedsBack_walk a0 a1_0 a1_1 a1_2 a1_3 a1_4 a1_5 a1_6 a1_7 W (tabs_of_laid hL) z0 (bounds_u32 wa1_0) (bounds_u16 wa1_1) (bounds_u32 wa1_2) (bounds_u16 wa1_3) (bounds_u32 wa1_4) (bounds_u16 wa1_5) (bounds_u32 wa1_6) (bounds_u16 wa1_7)).mono fun e W' ⟨he, bel⟩ => ?_
  subst he
  exact ⟨_, rfl, _, _, _, [], _, [], hW', trodAll_mk1 (shut_bool Tryz.underlying4 _), (trodAll_cons_mk (Below.trod laidOut (by kernel_rfl) (of_decide_eq_true (by kernel_rfl)) k0 bel lt0) (trodAll_cons_mk (Below.trod laidOut (by kernel_rfl) (of_decide_eq_true (by kernel_rfl)) k1 bel lt1) trodAll_mk0)), rfl, bel.frame _, fun h => by cases h⟩

theorem over : Rows.embedsBackRow.holds Tryz.pinned (OpenSpec.ofChange Rows.embedsBackSpec) :=
  OpenClaim.holds_of_wide 6 Tryz.f6 rfl rfl rfl rfl rfl rfl rfl ⟨rfl, rfl, rfl, rfl, rfl⟩ rfl rfl rfl rfl rfl (by kernel_rfl) Tryz.func6 (by kernel_rfl)
    (of_decide_eq_true (by kernel_rfl)) (by unfold Func.isWrapper; first | (rw [if_pos (by decide +kernel)]; kernel_rfl) | (rw [if_neg (by decide +kernel)]; exact ⟨rfl, rfl⟩))
    (fun os started H enc _ => lifted os started H enc)

/-- the row's statement -/
theorem row : Rows.EmbedsBackSaid := over
/-- the card -/
theorem proved : Rows.EmbedsBackCardSaid :=
  Claim7.holds_tied_plain_at .later [] [.data, .data, .data, .mapped, .mapped] true (true, "2421422d5d3291b2479eb86f036a9ee2adb07fb52707420c910e1f012a1b051c") false
    over (fun _ h => by cases h) (by kernel_rfl) (fun _ h => by cases h) embedsBack_row_tie rfl ⟨rfl, rfl⟩ (by kernel_rfl) rfl
    (fun f fn hf hfn => by
      obtain rfl : f = 6 := Option.some.inj ((show Tryz.prog.funcNamed "porter/porterlaw10.EmbedsBack" = some 6 by kernel_rfl).symm.trans hf) |>.symm
      obtain rfl : fn = Tryz.f6 := (Option.some.inj (Tryz.func6.symm.trans hfn)).symm
      exact ⟨by kernel_rfl, fun j t ht => by
        rw [Tryz.params6] at ht
        have hm : t ∈ [9, 30] := by simpa using Array.mem_of_getElem? ht
        have hall : ([9, 30].all fun u => !Tryz.prog.wantsStandIn u) = true := by kernel_rfl
        exact (show Tryz.prog.wantsStandIn t = false by simpa using List.all_eq_true.1 hall t hm)⟩)
    (by kernel_rfl)
#print axioms proved
end Go.Proofs.YtjeaknipmdfkdaaGreatDoor.lawEmbedsBack
