/- AtomNone: the given statement, out of its walk. -/
import Derived.Test.YtedfdphapcanoaaGreatDoorM45
import Derived.Test.YtedfdphapcanoaaGreatDoorM44
import Derived.Test.YtedfdphapcanoaaGreatDoorM46
import Derived.Test.YtedfdphapcanoaaGreatDoorCards
import Derived.Test.YtedfdphapcanoaaGreatDoorTie
import Derived.Handed
import Derived.LaidMore
import Derived.Stop.Joined
import Derived.Test.YtedfdphapcanoaaGreatDoorRows
import Derived.WalkKit
import Derived.ProofKit
import Derived.OpenShut
import Derived.ShutString
import Derived.ChangeOld
import Derived.Below
import Derived.SliceStrings
import Derived.SizedLaws
set_option linter.unusedVariables false
namespace Go.Proofs.YtedfdphapcanoaaGreatDoor.lawAtomNone
open Go.ChangeShapes Go.WideShapes Go.ChangeAt Go.RowKit
open Go.ChangeMaps (open_string shut_string)

theorem own : ownKnob Tryz.prog.godebug = none := by kernel_rfl
theorem laidOut : laidOutB Tryz.prog = true := by kernel_rfl

set_option maxRecDepth 100000 in
theorem lifted (os : Os) (started : os.Started) (H : Type) (enc : TypeId × Value → H) :
    ReturnsInHanded {} Tryz.checked os 7 .any (fun w args => (Rows.atomNoneSpec.pre enc Tryz.prog Tryz.f7 Rows.atomNoneRow.domain false w args ∧ laidMetH Tryz.prog laidA w) ∧ sizedMet enc Tryz.prog Tryz.f7 (OpenSpec.ofChange Rows.atomNoneSpec) false w args) (Rows.atomNoneSpec.post enc Tryz.prog Tryz.f7 false true false false) := by
  refine returnsInHanded_of_change_and (C := Tryz.checked) (X := fun w _ => laidMetH Tryz.prog laidA w) (fun _ _ _ hh h => h.of_heap hh) own started (by kernel_rfl) Tryz.func7
    (ChangeSpec.witness_shaped (enc := enc) (C := Tryz.checked) (os := os) (X := fun w _ => laidMetH Tryz.prog laidA w) false (World.doorLaid Tryz.prog 400 os) #[.int .u32 0, .agg #[.int .u32 0, .int .i64 0], .agg #[.int .u8 0, .int .u8 0, .int .u8 0, .int .u8 0, .int .u8 0, .int .u8 0, .int .u8 0, .int .u8 0, .int .u8 0, .string ByteArray.empty, .int .u16 0, .int .u16 0, .int .i64 0, .int .u8 0, .int .u8 0, .int .u8 0, .int .u8 0, .int .u8 0, .int .i64 0, .int .u8 0, .int .u32 0, .int .i64 0, .int .u32 0, .int .i64 0, .int .u32 0, .int .u16 0, .int .u16 0, .int .u32 0, .int .u16 0, .slice none 0 0, .int .i64 0]] 8 rfl (World.shaped_of_RefB (by kernel_rfl) (by kernel_rfl)) (by kernel_rfl) (by kernel_rfl) (by kernel_rfl) (a_met os _)) ?_
  intro W base args ds gs before hval0 hW hcnd hsz0 hL _
  have hsz : (DataW.weightsEach Tryz.prog (Tryz.f7.params.toList ++ Rows.atomNoneSpec.plain.varTypes Tryz.prog) (ds ++ gs)).all (· ≤ reachBytes) = true := hsz0
  have hval : ∀ (j : Nat) t v, Tryz.f7.params[j]? = some t → args[j]? = some v → Value.okWide Tryz.prog W .any base t v := hval0
  have hW' := hW
  obtain ⟨p, q, hA0, hV, rfl, hfz, hnd⟩ := hW
  have hA : DataW.TrodAll enc Tryz.prog W 0 (fun _ => true) true Tryz.f7.params.toList args.toList ds p := hA0
  rw [Tryz.params7] at hA hval hsz
  obtain ⟨v0, vs0, d0, ds0, p0, q0, hargs, rfl, rfl, h0, r0⟩ := trodAll_cons hA
  obtain ⟨v1, vs1, d1, ds1, p1, q1, rfl, rfl, rfl, h1, r1⟩ := trodAll_cons r0
  obtain ⟨v2, vs2, d2, ds2, p2, q2, rfl, rfl, rfl, h2, r2⟩ := trodAll_cons r1
  obtain ⟨rfl, rfl, rfl⟩ := trodAll_nil r2
  obtain rfl : args = #[v0, v1, v2] := by cases args; simp_all
  obtain ⟨rfl, rfl⟩ := trodVars_none hV
  have k0 := h0
  have lt0 : ∀ x ∈ p0, x.block < W.heap.size := by obtain ⟨m, hm⟩ := k0; exact DataW.trod_lt m _ _ _ hm
  have k1 := h1
  have lt1 : ∀ x ∈ p1, x.block < W.heap.size := by obtain ⟨m, hm⟩ := k1; exact DataW.trod_lt m _ _ _ hm
  have k2 := h2
  have lt2 : ∀ x ∈ p2, x.block < W.heap.size := by obtain ⟨m, hm⟩ := k2; exact DataW.trod_lt m _ _ _ hm
  obtain ⟨a0, rfl, rfl, rfl, w0⟩ := open_int Tryz.underlying27 (hval 0 27 v0 rfl rfl) h0
  obtain ⟨cs1, rfl, hsz1⟩ := okWide_struct Tryz.underlying57 (hval 1 57 v1 rfl rfl)
  rw [show Tryz.prog.cellsOf 57 = 2 from by kernel_rfl] at hsz1
  obtain ⟨fuel1, hf1⟩ := h1
  simp only [Value.cells] at hf1
  obtain ⟨a1_0, qa1_0, wa1_0⟩ := leaf_int (leafAt_of (n := 8) (i := 0) (u := 27) (by kernel_rfl) hf1) Tryz.underlying27
  obtain ⟨a1_1, qa1_1, wa1_1⟩ := leaf_int (leafAt_of (n := 8) (i := 1) (u := 3) (by kernel_rfl) hf1) Tryz.underlying3
  obtain rfl : cs1 = #[.int .u32 a1_0, .int .i64 a1_1] := arr_ext hsz1 (fun j hj => by
    match j, hj with
    | 0, _ => exact qa1_0
    | 1, _ => exact qa1_1)
  obtain ⟨cs2, rfl, hsz2⟩ := okWide_struct Tryz.underlying63 (hval 2 63 v2 rfl rfl)
  rw [show Tryz.prog.cellsOf 63 = 31 from by kernel_rfl] at hsz2
  obtain ⟨fuel2, hf2⟩ := h2
  simp only [Value.cells] at hf2
  obtain ⟨a2_0, qa2_0, wa2_0⟩ := leaf_int (leafAt_of (n := 8) (i := 0) (u := 5) (by kernel_rfl) hf2) Tryz.underlying5
  obtain ⟨a2_1, qa2_1, wa2_1⟩ := leaf_int (leafAt_of (n := 8) (i := 1) (u := 5) (by kernel_rfl) hf2) Tryz.underlying5
  obtain ⟨a2_2, qa2_2, wa2_2⟩ := leaf_int (leafAt_of (n := 8) (i := 2) (u := 5) (by kernel_rfl) hf2) Tryz.underlying5
  obtain ⟨a2_3, qa2_3, wa2_3⟩ := leaf_int (leafAt_of (n := 8) (i := 3) (u := 5) (by kernel_rfl) hf2) Tryz.underlying5
  obtain ⟨a2_4, qa2_4, wa2_4⟩ := leaf_int (leafAt_of (n := 8) (i := 4) (u := 5) (by kernel_rfl) hf2) Tryz.underlying5
  obtain ⟨a2_5, qa2_5, wa2_5⟩ := leaf_int (leafAt_of (n := 8) (i := 5) (u := 5) (by kernel_rfl) hf2) Tryz.underlying5
  obtain ⟨a2_6, qa2_6, wa2_6⟩ := leaf_int (leafAt_of (n := 8) (i := 6) (u := 5) (by kernel_rfl) hf2) Tryz.underlying5
  obtain ⟨a2_7, qa2_7, wa2_7⟩ := leaf_int (leafAt_of (n := 8) (i := 7) (u := 5) (by kernel_rfl) hf2) Tryz.underlying5
  obtain ⟨a2_8, qa2_8, wa2_8⟩ := leaf_int (leafAt_of (n := 8) (i := 8) (u := 5) (by kernel_rfl) hf2) Tryz.underlying5
  obtain ⟨a2_9, qa2_9, wa2_9⟩ := leaf_string (leafAt_of (n := 8) (i := 9) (u := 9) (by kernel_rfl) hf2) Tryz.underlying9 (sized_at hsz (j := 2) (t := 63) rfl rfl)
  obtain ⟨a2_10, qa2_10, wa2_10⟩ := leaf_int (leafAt_of (n := 8) (i := 10) (u := 28) (by kernel_rfl) hf2) Tryz.underlying28
  obtain ⟨a2_11, qa2_11, wa2_11⟩ := leaf_int (leafAt_of (n := 8) (i := 11) (u := 28) (by kernel_rfl) hf2) Tryz.underlying28
  obtain ⟨a2_12, qa2_12, wa2_12⟩ := leaf_int (leafAt_of (n := 8) (i := 12) (u := 3) (by kernel_rfl) hf2) Tryz.underlying3
  obtain ⟨a2_13, qa2_13, wa2_13⟩ := leaf_int (leafAt_of (n := 8) (i := 13) (u := 5) (by kernel_rfl) hf2) Tryz.underlying5
  obtain ⟨a2_14, qa2_14, wa2_14⟩ := leaf_int (leafAt_of (n := 8) (i := 14) (u := 5) (by kernel_rfl) hf2) Tryz.underlying5
  obtain ⟨a2_15, qa2_15, wa2_15⟩ := leaf_int (leafAt_of (n := 8) (i := 15) (u := 5) (by kernel_rfl) hf2) Tryz.underlying5
  obtain ⟨a2_16, qa2_16, wa2_16⟩ := leaf_int (leafAt_of (n := 8) (i := 16) (u := 5) (by kernel_rfl) hf2) Tryz.underlying5
  obtain ⟨a2_17, qa2_17, wa2_17⟩ := leaf_int (leafAt_of (n := 8) (i := 17) (u := 5) (by kernel_rfl) hf2) Tryz.underlying5
  obtain ⟨a2_18, qa2_18, wa2_18⟩ := leaf_int (leafAt_of (n := 8) (i := 18) (u := 3) (by kernel_rfl) hf2) Tryz.underlying3
  obtain ⟨a2_19, qa2_19, wa2_19⟩ := leaf_int (leafAt_of (n := 8) (i := 19) (u := 5) (by kernel_rfl) hf2) Tryz.underlying5
  obtain ⟨a2_20, qa2_20, wa2_20⟩ := leaf_int (leafAt_of (n := 8) (i := 20) (u := 27) (by kernel_rfl) hf2) Tryz.underlying27
  obtain ⟨a2_21, qa2_21, wa2_21⟩ := leaf_int (leafAt_of (n := 8) (i := 21) (u := 3) (by kernel_rfl) hf2) Tryz.underlying3
  obtain ⟨a2_22, qa2_22, wa2_22⟩ := leaf_int (leafAt_of (n := 8) (i := 22) (u := 27) (by kernel_rfl) hf2) Tryz.underlying27
  obtain ⟨a2_23, qa2_23, wa2_23⟩ := leaf_int (leafAt_of (n := 8) (i := 23) (u := 3) (by kernel_rfl) hf2) Tryz.underlying3
  obtain ⟨a2_24, qa2_24, wa2_24⟩ := leaf_int (leafAt_of (n := 8) (i := 24) (u := 27) (by kernel_rfl) hf2) Tryz.underlying27
  obtain ⟨a2_25, qa2_25, wa2_25⟩ := leaf_int (leafAt_of (n := 8) (i := 25) (u := 28) (by kernel_rfl) hf2) Tryz.underlying28
  obtain ⟨a2_26, qa2_26, wa2_26⟩ := leaf_int (leafAt_of (n := 8) (i := 26) (u := 28) (by kernel_rfl) hf2) Tryz.underlying28
  obtain ⟨a2_27, qa2_27, wa2_27⟩ := leaf_int (leafAt_of (n := 8) (i := 27) (u := 27) (by kernel_rfl) hf2) Tryz.underlying27
  obtain ⟨a2_28, qa2_28, wa2_28⟩ := leaf_int (leafAt_of (n := 8) (i := 28) (u := 28) (by kernel_rfl) hf2) Tryz.underlying28
  obtain ⟨Aa2_29, na2_29, ca2_29, qa2_29, ra2_29⟩ := real_cell (i := 29) (u := 37) Tryz.underlying63 (hval 2 63 (.agg cs2) rfl rfl) (by kernel_rfl) Tryz.underlying37 (by rw [hsz2]; decide)
  obtain ⟨a2_30, qa2_30, wa2_30⟩ := leaf_int (leafAt_of (n := 8) (i := 30) (u := 3) (by kernel_rfl) hf2) Tryz.underlying3
  obtain rfl : cs2 = #[.int .u8 a2_0, .int .u8 a2_1, .int .u8 a2_2, .int .u8 a2_3, .int .u8 a2_4, .int .u8 a2_5, .int .u8 a2_6, .int .u8 a2_7, .int .u8 a2_8, .string a2_9, .int .u16 a2_10, .int .u16 a2_11, .int .i64 a2_12, .int .u8 a2_13, .int .u8 a2_14, .int .u8 a2_15, .int .u8 a2_16, .int .u8 a2_17, .int .i64 a2_18, .int .u8 a2_19, .int .u32 a2_20, .int .i64 a2_21, .int .u32 a2_22, .int .i64 a2_23, .int .u32 a2_24, .int .u16 a2_25, .int .u16 a2_26, .int .u32 a2_27, .int .u16 a2_28, .slice Aa2_29 na2_29 ca2_29, .int .i64 a2_30] := arr_ext hsz2 (fun j hj => by
    have hj : j < 31 := hj
    have hj' : j = 0 ∨ j = 1 ∨ j = 2 ∨ j = 3 ∨ j = 4 ∨ j = 5 ∨ j = 6 ∨ j = 7 ∨ j = 8 ∨ j = 9 ∨ j = 10 ∨ j = 11 ∨ j = 12 ∨ j = 13 ∨ j = 14 ∨ j = 15 ∨ j = 16 ∨ j = 17 ∨ j = 18 ∨ j = 19 ∨ j = 20 ∨ j = 21 ∨ j = 22 ∨ j = 23 ∨ j = 24 ∨ j = 25 ∨ j = 26 ∨ j = 27 ∨ j = 28 ∨ j = 29 ∨ j = 30 := by omega
    clear hj
    rcases hj' with rfl | rfl | rfl | rfl | rfl | rfl | rfl | rfl | rfl | rfl | rfl | rfl | rfl | rfl | rfl | rfl | rfl | rfl | rfl | rfl | rfl | rfl | rfl | rfl | rfl | rfl | rfl | rfl | rfl | rfl | rfl
    · exact qa2_0
    · exact qa2_1
    · exact qa2_2
    · exact qa2_3
    · exact qa2_4
    · exact qa2_5
    · exact qa2_6
    · exact qa2_7
    · exact qa2_8
    · exact qa2_9
    · exact qa2_10
    · exact qa2_11
    · exact qa2_12
    · exact qa2_13
    · exact qa2_14
    · exact qa2_15
    · exact qa2_16
    · exact qa2_17
    · exact qa2_18
    · exact qa2_19
    · exact qa2_20
    · exact qa2_21
    · exact qa2_22
    · exact qa2_23
    · exact qa2_24
    · exact qa2_25
    · exact qa2_26
    · exact qa2_27
    · exact qa2_28
    · exact qa2_29
    · exact qa2_30)
  clear hA0 hval0
  refine (AtomNone_walk a0 a1_0 a1_1 a2_0 a2_1 a2_2 a2_3 a2_4 a2_5 a2_6 a2_7 a2_8 a2_9 a2_10 a2_11 a2_12 a2_13 a2_14 a2_15 a2_16 a2_17 a2_18 a2_19 a2_20 a2_21 a2_22 a2_23 a2_24 a2_25 a2_26 a2_27 a2_28 Aa2_29 na2_29 ca2_29 a2_30 W (a_of_laid hL) (bounds_u32 w0) (bounds_u32 wa1_0) (bounds_i64 wa1_1) (bounds_u8 wa2_0) (bounds_u8 wa2_1) (bounds_u8 wa2_2) (bounds_u8 wa2_3) (bounds_u8 wa2_4) (bounds_u8 wa2_5) (bounds_u8 wa2_6) (bounds_u8 wa2_7) (bounds_u8 wa2_8) wa2_9 (bounds_u16 wa2_10) (bounds_u16 wa2_11) (bounds_i64 wa2_12) (bounds_u8 wa2_13) (bounds_u8 wa2_14) (bounds_u8 wa2_15) (bounds_u8 wa2_16) (bounds_u8 wa2_17) (bounds_i64 wa2_18) (bounds_u8 wa2_19) (bounds_u32 wa2_20) (bounds_i64 wa2_21) (bounds_u32 wa2_22) (bounds_i64 wa2_23) (bounds_u32 wa2_24) (bounds_u16 wa2_25) (bounds_u16 wa2_26) (bounds_u32 wa2_27) (bounds_u16 wa2_28) ra2_29 (bounds_i64 wa2_30)).mono fun e W' ⟨he, bel⟩ => ?_
  subst he
  exact ⟨_, rfl, _, _, _, [], _, [], hW', trodAll_mk1 (shut_bool Tryz.underlying4 _), (trodAll_cons_mk (Below.trod laidOut (by kernel_rfl) (of_decide_eq_true (by kernel_rfl)) k0 bel lt0) (trodAll_cons_mk (Below.trod laidOut (by kernel_rfl) (of_decide_eq_true (by kernel_rfl)) k1 bel lt1) (trodAll_cons_mk (Below.trod laidOut (by kernel_rfl) (of_decide_eq_true (by kernel_rfl)) k2 bel lt2) trodAll_mk0))), rfl, bel.frame _, fun h => by cases h⟩

theorem and_of {a b : Bool} (ha : a = true) (hb : b = true) : (a && b) = true := by rw [ha, hb]; rfl
set_option maxHeartbeats 4000000 in
theorem closed : joinedFacts Tryz.checked.prog 7 Tryz.f7 Rows.atomNoneSpec Rows.atomNoneRow = true := by
  unfold joinedFacts
  repeat' (with_reducible refine and_of ?_ ?_)
  all_goals as_aux_lemma => kernel_rfl

theorem over : Rows.atomNoneRow.holds Tryz.pinned (OpenSpec.ofChange Rows.atomNoneSpec) :=
  OpenClaim.holds_of_wide 7 Tryz.f7 rfl rfl rfl rfl rfl rfl rfl ⟨rfl, rfl, rfl, rfl, rfl⟩ rfl rfl rfl rfl rfl (by kernel_rfl) Tryz.func7 closed
    (of_decide_eq_true (by kernel_rfl)) (by unfold Func.isWrapper; first | (rw [if_pos (by decide +kernel)]; kernel_rfl) | (rw [if_neg (by decide +kernel)]; exact ⟨rfl, rfl⟩))
    (fun os started H enc _ => lifted os started H enc)

/-- the row's statement -/
theorem row : Rows.AtomNoneSaid := over
/-- the card -/
theorem proved : Rows.AtomNoneCardSaid :=
  Claim7.holds_tied_plain_at .later [] [.data, .mapped, .mapped] true (true, "7d155e5f0bd079e83826f5d9ed44995fb6ffdf44f96bb4e774ae8bbaa214290b") false
    over (fun _ h => by cases h) (by kernel_rfl) (fun _ h => by cases h) atomNone_row_tie rfl ⟨rfl, rfl⟩ (by kernel_rfl) rfl
    (fun f fn hf hfn => by
      obtain rfl : f = 7 := Option.some.inj ((show Tryz.prog.funcNamed "porter/porterlaw21.AtomNone" = some 7 by kernel_rfl).symm.trans hf) |>.symm
      obtain rfl : fn = Tryz.f7 := (Option.some.inj (Tryz.func7.symm.trans hfn)).symm
      exact ⟨by kernel_rfl, fun j t ht => by
        rw [Tryz.params7] at ht
        have hm : t ∈ [27, 57, 63] := by simpa using Array.mem_of_getElem? ht
        have hall : ([27, 57, 63].all fun u => !Tryz.prog.wantsStandIn u) = true := by kernel_rfl
        exact (show Tryz.prog.wantsStandIn t = false by simpa using List.all_eq_true.1 hall t hm)⟩)
    (by kernel_rfl)
#print axioms proved
end Go.Proofs.YtedfdphapcanoaaGreatDoor.lawAtomNone
