/- IcmpBack: the given statement, out of its walk. -/
import Derived.Test.YthmedjlecikbiaaDoorLaw07g
import Derived.Test.YthmedjlecikbiaaDoorLeaf
import Derived.Test.YthmedjlecikbiaaDoorKinds0
import Derived.Test.YthmedjlecikbiaaDoorCards
import Derived.Test.YthmedjlecikbiaaDoorTie
import Derived.Handed
import Derived.LaidMore
import Derived.Stop.Joined
import Derived.Test.YthmedjlecikbiaaDoorRows
import Derived.WalkKit
import Derived.ProofKit
import Derived.OpenShut
import Derived.ShutString
import Derived.ChangeOld
import Derived.Below
import Derived.SliceStrings
import Derived.SizedLaws
set_option linter.unusedVariables false
namespace Go.Proofs.YthmedjlecikbiaaDoor.lawIcmpBack
open Go.ChangeShapes Go.WideShapes Go.ChangeAt Go.RowKit
open Go.ChangeMaps (open_string shut_string)

theorem own : ownKnob Tryd.prog.godebug = none := by kernel_rfl
theorem laidOut : laidOutB Tryd.prog = true := by kernel_rfl

set_option maxRecDepth 100000 in
theorem lifted (os : Os) (started : os.Started) (H : Type) (enc : TypeId × Value → H) :
    ReturnsInHanded {} Tryd.checked os 6 .any (fun w args => (Rows.icmpBackSpec.pre enc Tryd.prog Tryd.f6 Rows.icmpBackRow.domain false w args ∧ laidMetH Tryd.prog laidKinds w) ∧ sizedMet enc Tryd.prog Tryd.f6 (OpenSpec.ofChange Rows.icmpBackSpec) false w args) (Rows.icmpBackSpec.post enc Tryd.prog Tryd.f6 false true false false) := by
  refine returnsInHanded_of_change_and (C := Tryd.checked) (X := fun w _ => laidMetH Tryd.prog laidKinds w) (fun _ _ _ hh h => h.of_heap hh) own started (by kernel_rfl) Tryd.func6
    (ChangeSpec.witness_shaped (enc := enc) (C := Tryd.checked) (os := os) (X := fun w _ => laidMetH Tryd.prog laidKinds w) false (World.doorLaid Tryd.prog 400 os) #[.agg #[.int .u8 0, .int .u8 0, .int .u16 0, .string ByteArray.empty, .string ByteArray.empty], .string ByteArray.empty, .int .u16 0] 8 rfl (World.shaped_of_RefB (by kernel_rfl) (by kernel_rfl)) (by kernel_rfl) (by kernel_rfl) (by kernel_rfl) (kinds_met os _)) ?_
  intro W base args ds gs before hval0 hW hcnd hsz0 hL _
  have hsz : (DataW.weightsEach Tryd.prog (Tryd.f6.params.toList ++ Rows.icmpBackSpec.plain.varTypes Tryd.prog) (ds ++ gs)).all (· ≤ reachBytes) = true := hsz0
  have hval : ∀ (j : Nat) t v, Tryd.f6.params[j]? = some t → args[j]? = some v → Value.okWide Tryd.prog W .any base t v := hval0
  have hW' := hW
  obtain ⟨p, q, hA0, hV, rfl, hfz, hnd⟩ := hW
  have hA : DataW.TrodAll enc Tryd.prog W 0 (fun _ => true) true Tryd.f6.params.toList args.toList ds p := hA0
  rw [Tryd.params6] at hA hval hsz
  obtain ⟨v0, vs0, d0, ds0, p0, q0, hargs, rfl, rfl, h0, r0⟩ := trodAll_cons hA
  obtain ⟨v1, vs1, d1, ds1, p1, q1, rfl, rfl, rfl, h1, r1⟩ := trodAll_cons r0
  obtain ⟨v2, vs2, d2, ds2, p2, q2, rfl, rfl, rfl, h2, r2⟩ := trodAll_cons r1
  obtain ⟨rfl, rfl, rfl⟩ := trodAll_nil r2
  obtain rfl : args = #[v0, v1, v2] := by cases args; simp_all
  obtain ⟨rfl, rfl⟩ := trodVars_none hV
  have k0 := h0
  have lt0 : ∀ x ∈ p0, x.block < W.heap.size := by obtain ⟨m, hm⟩ := k0; exact DataW.trod_lt m _ _ _ hm
  have k1 := h1
  have lt1 : ∀ x ∈ p1, x.block < W.heap.size := by obtain ⟨m, hm⟩ := k1; exact DataW.trod_lt m _ _ _ hm
  have k2 := h2
  have lt2 : ∀ x ∈ p2, x.block < W.heap.size := by obtain ⟨m, hm⟩ := k2; exact DataW.trod_lt m _ _ _ hm
  obtain ⟨cs0, rfl, hsz0⟩ := okWide_struct Tryd.underlying29 (hval 0 29 v0 rfl rfl)
  rw [show Tryd.prog.cellsOf 29 = 5 from by kernel_rfl] at hsz0
  obtain ⟨fuel0, hf0⟩ := h0
  simp only [Value.cells] at hf0
  obtain ⟨a0_0, qa0_0, wa0_0⟩ := leaf_int (leafAt_of (n := 8) (i := 0) (u := 5) (by kernel_rfl) hf0) Tryd.underlying5
  obtain ⟨a0_1, qa0_1, wa0_1⟩ := leaf_int (leafAt_of (n := 8) (i := 1) (u := 5) (by kernel_rfl) hf0) Tryd.underlying5
  obtain ⟨a0_2, qa0_2, wa0_2⟩ := leaf_int (leafAt_of (n := 8) (i := 2) (u := 25) (by kernel_rfl) hf0) Tryd.underlying25
  obtain ⟨a0_3, qa0_3, wa0_3⟩ := leaf_string (leafAt_of (n := 8) (i := 3) (u := 9) (by kernel_rfl) hf0) Tryd.underlying9 (sized_at hsz (j := 0) (t := 29) rfl rfl)
  obtain ⟨a0_4, qa0_4, wa0_4⟩ := leaf_string (leafAt_of (n := 8) (i := 4) (u := 9) (by kernel_rfl) hf0) Tryd.underlying9 (sized_at hsz (j := 0) (t := 29) rfl rfl)
  obtain rfl : cs0 = #[.int .u8 a0_0, .int .u8 a0_1, .int .u16 a0_2, .string a0_3, .string a0_4] := arr_ext hsz0 (fun j hj => by
    match j, hj with
    | 0, _ => exact qa0_0
    | 1, _ => exact qa0_1
    | 2, _ => exact qa0_2
    | 3, _ => exact qa0_3
    | 4, _ => exact qa0_4)
  obtain ⟨a1, rfl, rfl, rfl, w1⟩ := open_string Tryd.underlying9 (hval 1 9 v1 rfl rfl) h1
  have z1 : a1.size ≤ 140737488351232 := sized_string hsz (j := 1) (t := 9) rfl rfl
  obtain ⟨a2, rfl, rfl, rfl, w2⟩ := open_int Tryd.underlying25 (hval 2 25 v2 rfl rfl) h2
  clear hA0 hval0
  refine (IcmpBack_walk a0_0 a0_1 a0_2 a0_3 a0_4 a1 a2 W (kinds_of_laid hL) (bounds_u8 wa0_0) (bounds_u8 wa0_1) (bounds_u16 wa0_2) wa0_3 wa0_4 z1 (bounds_u16 w2)).mono fun e W' ⟨he, bel⟩ => ?_
  subst he
  exact ⟨_, rfl, _, _, _, [], _, [], hW', trodAll_mk1 (shut_bool Tryd.underlying4 _), (trodAll_cons_mk (Below.trod laidOut (by kernel_rfl) (of_decide_eq_true (by kernel_rfl)) k0 bel lt0) (trodAll_cons_mk (Below.trod laidOut (by kernel_rfl) (of_decide_eq_true (by kernel_rfl)) k1 bel lt1) (trodAll_cons_mk (Below.trod laidOut (by kernel_rfl) (of_decide_eq_true (by kernel_rfl)) k2 bel lt2) trodAll_mk0))), rfl, bel.frame _, fun h => by cases h⟩

theorem over : Rows.icmpBackRow.holds Tryd.pinned (OpenSpec.ofChange Rows.icmpBackSpec) :=
  OpenClaim.holds_of_wide 6 Tryd.f6 rfl rfl rfl rfl rfl rfl rfl ⟨rfl, rfl, rfl, rfl, rfl⟩ rfl rfl rfl rfl rfl (by kernel_rfl) Tryd.func6 (by kernel_rfl)
    (of_decide_eq_true (by kernel_rfl)) (by unfold Func.isWrapper; first | (rw [if_pos (by decide +kernel)]; kernel_rfl) | (rw [if_neg (by decide +kernel)]; exact ⟨rfl, rfl⟩))
    (fun os started H enc _ => lifted os started H enc)

/-- the row's statement -/
theorem row : Rows.IcmpBackSaid := over
/-- the card -/
theorem proved : Rows.IcmpBackCardSaid :=
  Claim7.holds_tied_plain_at .later [] [.mapped] true (true, "a5d784970eb26833d50931556fda7b4f959591984007579dbfb47a7191906102") false
    over (fun _ h => by cases h) (by kernel_rfl) (fun _ h => by cases h) icmpBack_row_tie rfl ⟨rfl, rfl⟩ (by kernel_rfl) rfl
    (fun f fn hf hfn => by
      obtain rfl : f = 6 := Option.some.inj ((show Tryd.prog.funcNamed "porter/porterlaw07.IcmpBack" = some 6 by kernel_rfl).symm.trans hf) |>.symm
      obtain rfl : fn = Tryd.f6 := (Option.some.inj (Tryd.func6.symm.trans hfn)).symm
      exact ⟨by kernel_rfl, fun j t ht => by
        rw [Tryd.params6] at ht
        have hm : t ∈ [29, 9, 25] := by simpa using Array.mem_of_getElem? ht
        have hall : ([29, 9, 25].all fun u => !Tryd.prog.wantsStandIn u) = true := by kernel_rfl
        exact (show Tryd.prog.wantsStandIn t = false by simpa using List.all_eq_true.1 hall t hm)⟩)
    (by kernel_rfl)
#print axioms proved
end Go.Proofs.YthmedjlecikbiaaDoor.lawIcmpBack
