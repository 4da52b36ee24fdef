/- BindsSend: the given statement, out of its walk. -/
import Derived.Test.YtilfcikhipadpaaGreatDoorK44a
import Derived.Test.YtilfcikhipadpaaGreatDoorK3a
import Derived.Test.YtilfcikhipadpaaGreatDoorCards
import Derived.Test.YtilfcikhipadpaaGreatDoorTie
import Derived.Handed
import Derived.LaidMore
import Derived.Stop.Joined
import Derived.Test.YtilfcikhipadpaaGreatDoorRows
import Derived.WalkKit
import Derived.ProofKit
import Derived.OpenShut
import Derived.ShutString
import Derived.ChangeOld
import Derived.Below
import Derived.SliceStrings
import Derived.SizedLaws
set_option linter.unusedVariables false
namespace Go.Proofs.YtilfcikhipadpaaGreatDoor.lawBindsSend
open Go.ChangeShapes Go.WideShapes Go.ChangeAt Go.RowKit
open Go.ChangeMaps (open_string shut_string)

theorem own : ownKnob Tryz.prog.godebug = none := by kernel_rfl
theorem laidOut : laidOutB Tryz.prog = true := by kernel_rfl

set_option maxRecDepth 100000 in
theorem lifted (os : Os) (started : os.Started) (H : Type) (enc : TypeId × Value → H) :
    ReturnsInHanded {} Tryz.checked os 6 .any (fun w args => (Rows.bindsSendSpec.pre enc Tryz.prog Tryz.f6 Rows.bindsSendRow.domain false w args ∧ laidMetH Tryz.prog laidB w) ∧ sizedMet enc Tryz.prog Tryz.f6 (OpenSpec.ofChange Rows.bindsSendSpec) false w args) (Rows.bindsSendSpec.post enc Tryz.prog Tryz.f6 false true false false) := by
  refine returnsInHanded_of_change_and (C := Tryz.checked) (X := fun w _ => laidMetH Tryz.prog laidB w) (fun _ _ _ hh h => h.of_heap hh) own started (by kernel_rfl) Tryz.func6
    (ChangeSpec.witness_shaped (enc := enc) (C := Tryz.checked) (os := os) (X := fun w _ => laidMetH Tryz.prog laidB w) false (World.doorLaid Tryz.prog 400 os) #[.slice none 0 0, .agg #[.int .u8 0, .int .u8 0, .int .u8 0, .int .u8 0, .int .u8 0, .int .u8 0, .int .u8 0, .int .u8 0, .string ByteArray.empty], .agg #[.int .u8 0, .int .u32 0, .int .u16 0, .int .u32 0, .int .u16 0, .int .u8 0, .int .u32 0, .int .u16 0, .int .u32 0, .int .u16 0, .int .i64 0, .int .i64 0, .slice none 0 0]] 8 rfl (World.shaped_of_RefB (by kernel_rfl) (by kernel_rfl)) (by kernel_rfl) (by kernel_rfl) (by kernel_rfl) (b_met os _)) ?_
  intro W base args ds gs before hval0 hW hcnd hsz0 hL _
  have hsz : (DataW.weightsEach Tryz.prog (Tryz.f6.params.toList ++ Rows.bindsSendSpec.plain.varTypes Tryz.prog) (ds ++ gs)).all (· ≤ reachBytes) = true := hsz0
  have hval : ∀ (j : Nat) t v, Tryz.f6.params[j]? = some t → args[j]? = some v → Value.okWide Tryz.prog W .any base t v := hval0
  have hW' := hW
  obtain ⟨p, q, hA0, hV, rfl, hfz, hnd⟩ := hW
  have hA : DataW.TrodAll enc Tryz.prog W 0 (fun _ => true) true Tryz.f6.params.toList args.toList ds p := hA0
  rw [Tryz.params6] at hA hval hsz
  obtain ⟨v0, vs0, d0, ds0, p0, q0, hargs, rfl, rfl, h0, r0⟩ := trodAll_cons hA
  obtain ⟨v1, vs1, d1, ds1, p1, q1, rfl, rfl, rfl, h1, r1⟩ := trodAll_cons r0
  obtain ⟨v2, vs2, d2, ds2, p2, q2, rfl, rfl, rfl, h2, r2⟩ := trodAll_cons r1
  obtain ⟨rfl, rfl, rfl⟩ := trodAll_nil r2
  obtain rfl : args = #[v0, v1, v2] := by cases args; simp_all
  obtain ⟨rfl, rfl⟩ := trodVars_none hV
  have k0 := h0
  have lt0 : ∀ x ∈ p0, x.block < W.heap.size := by obtain ⟨m, hm⟩ := k0; exact DataW.trod_lt m _ _ _ hm
  have k1 := h1
  have lt1 : ∀ x ∈ p1, x.block < W.heap.size := by obtain ⟨m, hm⟩ := k1; exact DataW.trod_lt m _ _ _ hm
  have k2 := h2
  have lt2 : ∀ x ∈ p2, x.block < W.heap.size := by obtain ⟨m, hm⟩ := k2; exact DataW.trod_lt m _ _ _ hm
  obtain ⟨a0, len0, cap0, rfl⟩ := okWide_slice Tryz.underlying47 (hval 0 47 v0 rfl rfl)
  have ra0 := real_slice Tryz.underlying47 (hval 0 47 (.slice a0 len0 cap0) rfl rfl)
  obtain ⟨fuel0, hf0⟩ := h0
  simp only [Value.cells] at hf0
  obtain ⟨a0q, len0q, cap0q, z0, e0, w0⟩ := open_rulings (v := .slice a0 len0 cap0) hf0
  injection e0 with e0a e0b e0c
  subst e0a e0b e0c
  obtain ⟨cs1, rfl, hsz1⟩ := okWide_struct Tryz.underlying24 (hval 1 24 v1 rfl rfl)
  rw [show Tryz.prog.cellsOf 24 = 9 from by kernel_rfl] at hsz1
  obtain ⟨fuel1, hf1⟩ := h1
  simp only [Value.cells] at hf1
  obtain ⟨a1_0, qa1_0, wa1_0⟩ := leaf_int (leafAt_of (n := 8) (i := 0) (u := 5) (by kernel_rfl) hf1) Tryz.underlying5
  obtain ⟨a1_1, qa1_1, wa1_1⟩ := leaf_int (leafAt_of (n := 8) (i := 1) (u := 5) (by kernel_rfl) hf1) Tryz.underlying5
  obtain ⟨a1_2, qa1_2, wa1_2⟩ := leaf_int (leafAt_of (n := 8) (i := 2) (u := 5) (by kernel_rfl) hf1) Tryz.underlying5
  obtain ⟨a1_3, qa1_3, wa1_3⟩ := leaf_int (leafAt_of (n := 8) (i := 3) (u := 5) (by kernel_rfl) hf1) Tryz.underlying5
  obtain ⟨a1_4, qa1_4, wa1_4⟩ := leaf_int (leafAt_of (n := 8) (i := 4) (u := 5) (by kernel_rfl) hf1) Tryz.underlying5
  obtain ⟨a1_5, qa1_5, wa1_5⟩ := leaf_int (leafAt_of (n := 8) (i := 5) (u := 5) (by kernel_rfl) hf1) Tryz.underlying5
  obtain ⟨a1_6, qa1_6, wa1_6⟩ := leaf_int (leafAt_of (n := 8) (i := 6) (u := 5) (by kernel_rfl) hf1) Tryz.underlying5
  obtain ⟨a1_7, qa1_7, wa1_7⟩ := leaf_int (leafAt_of (n := 8) (i := 7) (u := 5) (by kernel_rfl) hf1) Tryz.underlying5
  obtain ⟨a1_8, qa1_8, wa1_8⟩ := leaf_string (leafAt_of (n := 8) (i := 8) (u := 9) (by kernel_rfl) hf1) Tryz.underlying9 (sized_at hsz (j := 1) (t := 24) rfl rfl)
  obtain rfl : cs1 = #[.int .u8 a1_0, .int .u8 a1_1, .int .u8 a1_2, .int .u8 a1_3, .int .u8 a1_4, .int .u8 a1_5, .int .u8 a1_6, .int .u8 a1_7, .string a1_8] := arr_ext hsz1 (fun j hj => by
    match j, hj with
    | 0, _ => exact qa1_0
    | 1, _ => exact qa1_1
    | 2, _ => exact qa1_2
    | 3, _ => exact qa1_3
    | 4, _ => exact qa1_4
    | 5, _ => exact qa1_5
    | 6, _ => exact qa1_6
    | 7, _ => exact qa1_7
    | 8, _ => exact qa1_8)
  obtain ⟨cs2, rfl, hsz2⟩ := okWide_struct Tryz.underlying77 (hval 2 77 v2 rfl rfl)
  rw [show Tryz.prog.cellsOf 77 = 13 from by kernel_rfl] at hsz2
  obtain ⟨fuel2, hf2⟩ := h2
  simp only [Value.cells] at hf2
  obtain ⟨a2_0, qa2_0, wa2_0⟩ := leaf_int (leafAt_of (n := 8) (i := 0) (u := 5) (by kernel_rfl) hf2) Tryz.underlying5
  obtain ⟨a2_1, qa2_1, wa2_1⟩ := leaf_int (leafAt_of (n := 8) (i := 1) (u := 28) (by kernel_rfl) hf2) Tryz.underlying28
  obtain ⟨a2_2, qa2_2, wa2_2⟩ := leaf_int (leafAt_of (n := 8) (i := 2) (u := 29) (by kernel_rfl) hf2) Tryz.underlying29
  obtain ⟨a2_3, qa2_3, wa2_3⟩ := leaf_int (leafAt_of (n := 8) (i := 3) (u := 28) (by kernel_rfl) hf2) Tryz.underlying28
  obtain ⟨a2_4, qa2_4, wa2_4⟩ := leaf_int (leafAt_of (n := 8) (i := 4) (u := 29) (by kernel_rfl) hf2) Tryz.underlying29
  obtain ⟨a2_5, qa2_5, wa2_5⟩ := leaf_int (leafAt_of (n := 8) (i := 5) (u := 5) (by kernel_rfl) hf2) Tryz.underlying5
  obtain ⟨a2_6, qa2_6, wa2_6⟩ := leaf_int (leafAt_of (n := 8) (i := 6) (u := 28) (by kernel_rfl) hf2) Tryz.underlying28
  obtain ⟨a2_7, qa2_7, wa2_7⟩ := leaf_int (leafAt_of (n := 8) (i := 7) (u := 29) (by kernel_rfl) hf2) Tryz.underlying29
  obtain ⟨a2_8, qa2_8, wa2_8⟩ := leaf_int (leafAt_of (n := 8) (i := 8) (u := 28) (by kernel_rfl) hf2) Tryz.underlying28
  obtain ⟨a2_9, qa2_9, wa2_9⟩ := leaf_int (leafAt_of (n := 8) (i := 9) (u := 29) (by kernel_rfl) hf2) Tryz.underlying29
  obtain ⟨a2_10, qa2_10, wa2_10⟩ := leaf_int (leafAt_of (n := 8) (i := 10) (u := 3) (by kernel_rfl) hf2) Tryz.underlying3
  obtain ⟨a2_11, qa2_11, wa2_11⟩ := leaf_int (leafAt_of (n := 8) (i := 11) (u := 3) (by kernel_rfl) hf2) Tryz.underlying3
  obtain ⟨va2_12, xa2_12, na2_12, qa2_12, ta2_12, _⟩ := leafAt_of (n := 8) (i := 12) (u := 75) (by kernel_rfl) hf2
  obtain ⟨Aa2_12, na2_12, ca2_12, la2_12, ea2_12, wa2_12⟩ := open_holds ta2_12
  subst ea2_12
  obtain ⟨Ba2_12, ka2_12, da2_12, pa2_12, ra2_12⟩ := real_cell (i := 12) (u := 75) Tryz.underlying77 (hval 2 77 (.agg cs2) rfl rfl) (by kernel_rfl) Tryz.underlying75 (by rw [hsz2]; decide)
  rw [show cs2.toList[12]? = some (.slice Aa2_12 na2_12 ca2_12) from qa2_12] at pa2_12; injection pa2_12 with pa2_12; injection pa2_12 with pa2_12; rw [← pa2_12] at ra2_12
  obtain rfl : cs2 = #[.int .u8 a2_0, .int .u32 a2_1, .int .u16 a2_2, .int .u32 a2_3, .int .u16 a2_4, .int .u8 a2_5, .int .u32 a2_6, .int .u16 a2_7, .int .u32 a2_8, .int .u16 a2_9, .int .i64 a2_10, .int .i64 a2_11, .slice Aa2_12 na2_12 ca2_12] := arr_ext hsz2 (fun j hj => by
    match j, hj with
    | 0, _ => exact qa2_0
    | 1, _ => exact qa2_1
    | 2, _ => exact qa2_2
    | 3, _ => exact qa2_3
    | 4, _ => exact qa2_4
    | 5, _ => exact qa2_5
    | 6, _ => exact qa2_6
    | 7, _ => exact qa2_7
    | 8, _ => exact qa2_8
    | 9, _ => exact qa2_9
    | 10, _ => exact qa2_10
    | 11, _ => exact qa2_11
    | 12, _ => exact qa2_12)
  clear hA0 hval0
  refine (BindsSend_walk a0 len0 cap0 z0 a1_0 a1_1 a1_2 a1_3 a1_4 a1_5 a1_6 a1_7 a1_8 a2_0 a2_1 a2_2 a2_3 a2_4 a2_5 a2_6 a2_7 a2_8 a2_9 a2_10 a2_11 Aa2_12 na2_12 ca2_12 la2_12 W (b_of_laid hL) w0 ra0 (bounds_u8 wa1_0) (bounds_u8 wa1_1) (bounds_u8 wa1_2) (bounds_u8 wa1_3) (bounds_u8 wa1_4) (bounds_u8 wa1_5) (bounds_u8 wa1_6) (bounds_u8 wa1_7) wa1_8 (bounds_u8 wa2_0) (bounds_u32 wa2_1) (bounds_u16 wa2_2) (bounds_u32 wa2_3) (bounds_u16 wa2_4) (bounds_u8 wa2_5) (bounds_u32 wa2_6) (bounds_u16 wa2_7) (bounds_u32 wa2_8) (bounds_u16 wa2_9) (bounds_i64 wa2_10) (bounds_i64 wa2_11) wa2_12 ra2_12).mono fun e W' ⟨he, bel⟩ => ?_
  subst he
  exact ⟨_, rfl, _, _, _, [], _, [], hW', trodAll_mk1 (shut_bool Tryz.underlying4 _), (trodAll_cons_mk (Below.trod laidOut (by kernel_rfl) (of_decide_eq_true (by kernel_rfl)) k0 bel lt0) (trodAll_cons_mk (Below.trod laidOut (by kernel_rfl) (of_decide_eq_true (by kernel_rfl)) k1 bel lt1) (trodAll_cons_mk (Below.trod laidOut (by kernel_rfl) (of_decide_eq_true (by kernel_rfl)) k2 bel lt2) trodAll_mk0))), rfl, bel.frame _, fun h => by cases h⟩

theorem over : Rows.bindsSendRow.holds Tryz.pinned (OpenSpec.ofChange Rows.bindsSendSpec) :=
  OpenClaim.holds_of_wide 6 Tryz.f6 rfl rfl rfl rfl rfl rfl rfl ⟨rfl, rfl, rfl, rfl, rfl⟩ rfl rfl rfl rfl rfl (by kernel_rfl) Tryz.func6 (by kernel_rfl)
    (of_decide_eq_true (by kernel_rfl)) (by unfold Func.isWrapper; first | (rw [if_pos (by decide +kernel)]; kernel_rfl) | (rw [if_neg (by decide +kernel)]; exact ⟨rfl, rfl⟩))
    (fun os started H enc _ => lifted os started H enc)

/-- the row's statement -/
theorem row : Rows.BindsSendSaid := over
/-- the card -/
theorem proved : Rows.BindsSendCardSaid :=
  Claim7.holds_tied_plain_at .later [] [.data, .mapped] true (true, "57424b3d5b7c1fd5207817385a7faa19d2dfd29491bde3495b8ca2d0452cb59b") false
    over (fun _ h => by cases h) (by kernel_rfl) (fun _ h => by cases h) bindsSend_row_tie rfl ⟨rfl, rfl⟩ (by kernel_rfl) rfl
    (fun f fn hf hfn => by
      obtain rfl : f = 6 := Option.some.inj ((show Tryz.prog.funcNamed "porter/porterlaw20.BindsSend" = some 6 by kernel_rfl).symm.trans hf) |>.symm
      obtain rfl : fn = Tryz.f6 := (Option.some.inj (Tryz.func6.symm.trans hfn)).symm
      exact ⟨by kernel_rfl, fun j t ht => by
        rw [Tryz.params6] at ht
        have hm : t ∈ [47, 24, 77] := by simpa using Array.mem_of_getElem? ht
        have hall : ([47, 24, 77].all fun u => !Tryz.prog.wantsStandIn u) = true := by kernel_rfl
        exact (show Tryz.prog.wantsStandIn t = false by simpa using List.all_eq_true.1 hall t hm)⟩)
    (by kernel_rfl)
#print axioms proved
end Go.Proofs.YtilfcikhipadpaaGreatDoor.lawBindsSend
