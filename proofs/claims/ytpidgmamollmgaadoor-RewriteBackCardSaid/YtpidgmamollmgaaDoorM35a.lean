/- Several texts of this claim, one behind the other. -/
import Derived.Test.YtpidgmamollmgaaDoorM31
import Derived.Test.YtpidgmamollmgaaDoorM34
import Derived.Test.YtpidgmamollmgaaDoorM33
import Derived.ProofKit
import Derived.OpenShut
import Derived.SizedLaws
import Derived.Test.YtpidgmamollmgaaDoorM0

section
/- RewriteBack walked. -/
set_option linter.unusedVariables false
set_option linter.unusedSimpArgs false
namespace Go.Proofs.YtpidgmamollmgaaDoor
open Go.RowKit
attribute [local go_sem] Oper.semAt_some

set_option maxRecDepth 100000 in
set_option maxHeartbeats 4000000 in
theorem back_long (s : ByteArray) (a b c d : Int) (w : World) (T0 : Tabs w) (q0 : (2500 : Int) < (s.size : Int)) (p5 : ∀ W, Tabs W → Calls Tryd.prog 6 #[] W (Ret (.bool true) W)) :
    Calls Tryd.prog 4 #[.string s, .agg #[.int .u32 a, .int .u16 b, .int .u32 c, .int .u16 d]] w (Ret (.bool true) w) := by
  have P5 := hide p5; have TT := hide T0; have KK := hide (show Kinds w from And.left T0)
  clear p5 T0
  go_enter Tryd.func4, Tryd.ntmps4
  have d0 := Cells.new w #[.int .u32 a, .int .u16 b, .int .u32 c, .int .u16 d] 28
  have l0 := fresh_below w (.cells #[.int .u32 a, .int .u16 b, .int .u32 c, .int .u16 d] 28)
  have B0 := hide l0; have D0 := hide d0
  clear l0 d0
  go_wp2_with fail
  have l0 := B0.out; have d0 := D0.out
  clear B0 D0
  generalize (w.alloc (.cells #[.int .u32 a, .int .u16 b, .int .u32 c, .int .u16 d] 28)) = w0 at *
  (with_reducible refine (P5.out _ (TT.out.below l0)).mono ?_)
  rintro e w1 ⟨rfl, l1⟩
  replace l1 := bstep l0 l1
  go_wp2_with fail
  go_ret
  exact ⟨rfl, l1⟩

set_option maxRecDepth 100000 in
set_option maxHeartbeats 4000000 in
theorem back_no (s : ByteArray) (a b c d x0 x1 x2 x3 x4 x5 x6 x8 : Int) (x7 : Bool) (w : World) (T0 : Tabs w) (q0 : ¬ (2500 : Int) < (s.size : Int)) (p5 : ∀ W, Tabs W → Calls Tryd.prog 6 #[] W (Ret (.bool true) W)) (p0 : ∀ W, Kinds W → Calls Tryd.prog 7 #[.string s, .int .u8 2] W (Ret (.tuple #[.agg #[.int .u8 x0, .int .u32 x1, .int .u16 x2, .int .u32 x3, .int .u16 x4, .int .i64 x5, .int .u8 x6, .bool x7, .int .u8 x8], .bool false]) W)) :
    Calls Tryd.prog 4 #[.string s, .agg #[.int .u32 a, .int .u16 b, .int .u32 c, .int .u16 d]] w (Ret (.bool true) w) := by
  have P5 := hide p5; have P0 := hide p0; have TT := hide T0; have KK := hide (show Kinds w from And.left T0)
  clear p5 p0 T0
  go_enter Tryd.func4, Tryd.ntmps4
  have d0 := Cells.new w #[.int .u32 a, .int .u16 b, .int .u32 c, .int .u16 d] 28
  have l0 := fresh_below w (.cells #[.int .u32 a, .int .u16 b, .int .u32 c, .int .u16 d] 28)
  have B0 := hide l0; have D0 := hide d0
  clear l0 d0
  go_wp2_with fail
  have l0 := B0.out; have d0 := D0.out
  clear B0 D0
  generalize (w.alloc (.cells #[.int .u32 a, .int .u16 b, .int .u32 c, .int .u16 d] 28)) = w0 at *
  (with_reducible refine (P0.out _ (KK.out.below l0)).mono ?_)
  rintro e w1 ⟨rfl, l1⟩
  replace l1 := bstep l0 l1
  replace l1 := bstep l1 (fresh_below _ (.cells #[.int .u8 x0, .int .u32 x1, .int .u16 x2, .int .u32 x3, .int .u16 x4, .int .i64 x5, .int .u8 x6, .bool x7, .int .u8 x8] 33))
  have B1 := hide l1
  clear l1
  go_wp2_with fail
  have l1 := B1.out
  (with_reducible refine (P5.out _ (TT.out.below l1)).mono ?_)
  rintro e w2 ⟨rfl, l2⟩
  replace l2 := bstep l1 l2
  go_wp2_with fail
  go_ret
  exact ⟨rfl, l2⟩

set_option maxRecDepth 100000 in
set_option maxHeartbeats 4000000 in
theorem back_yes (s t u m z : ByteArray) (a b c d x0 x1 x2 x3 x4 x5 x6 x8 y : Int) (x7 : Bool) (w : World) (T0 : Tabs w) (q0 : ¬ (2500 : Int) < (s.size : Int)) (q1 : ¬ (u.size : Int) < 20) (q2 : ¬ (s.size : Int) < (u.size : Int)) (q3 : (u.size : Int) ≤ (s.size : Int))
    (i1 : 8 < u.size) (i2 : (8 : Int) < (u.size : Int)) (i3 : 8 < s.size) (i4 : (8 : Int) < (s.size : Int)) (e1 : (((u[8]'i1).toNat : Nat) : Int) = y - 2) (e2 : (((s[8]'i3).toNat : Nat) : Int) = y) (hy : 2 ≤ y ∧ y ≤ 255) (ew : IntKind.u8.wrap (y - 2) = y - 2) (em : s.extract 0 u.size = m)
    (p5 : ∀ W, Tabs W → Calls Tryd.prog 6 #[] W (Ret (.bool true) W)) (p0 : ∀ W, Kinds W → Calls Tryd.prog 7 #[.string s, .int .u8 2] W (Ret (.tuple #[.agg #[.int .u8 x0, .int .u32 x1, .int .u16 x2, .int .u32 x3, .int .u16 x4, .int .i64 x5, .int .u8 x6, .bool x7, .int .u8 x8], .bool true]) W))
    (p1 : ∀ W, Kinds W → Calls Tryd.prog 8 #[.string s, .agg #[.int .u32 a, .int .u16 b, .int .u32 c, .int .u16 d]] W (Ret (.tuple #[.string t, .int .i64 0]) W)) (p2 : ∀ W, Kinds W → Calls Tryd.prog 8 #[.string t, .agg #[.int .u32 x1, .int .u16 x2, .int .u32 x3, .int .u16 x4]] W (Ret (.tuple #[.string u, .int .i64 0]) W)) (p6 : ∀ W, Kinds W → Calls Tryd.prog 11 #[.string u] W (Ret (.string z) W)) (p7 : ∀ W, Kinds W → Calls Tryd.prog 11 #[.string m] W (Ret (.string z) W)) :
    Calls Tryd.prog 4 #[.string s, .agg #[.int .u32 a, .int .u16 b, .int .u32 c, .int .u16 d]] w (Ret (.bool true) w) := by
  have P5 := hide p5; have P0 := hide p0; have P1 := hide p1; have P2 := hide p2; have P6 := hide p6; have P7 := hide p7; have TT := hide T0; have KK := hide (show Kinds w from And.left T0)
  have QA := hide (decide_eq_false q1); have QB := hide (decide_eq_false q2); have QC := hide (decide_eq_false (show ¬ s.size < u.size by omega))
  clear p5 p0 p1 p2 p6 p7 T0 q1 q2
  go_enter Tryd.func4, Tryd.ntmps4
  have d0 := Cells.new w #[.int .u32 a, .int .u16 b, .int .u32 c, .int .u16 d] 28
  have l0 := fresh_below w (.cells #[.int .u32 a, .int .u16 b, .int .u32 c, .int .u16 d] 28)
  have B0 := hide l0; have D0 := hide d0
  clear l0 d0
  go_wp2_with fail
  have l0 := B0.out; have d0 := D0.out
  clear B0 D0
  generalize (w.alloc (.cells #[.int .u32 a, .int .u16 b, .int .u32 c, .int .u16 d] 28)) = w0 at *
  (with_reducible refine (P0.out _ (KK.out.below l0)).mono ?_)
  rintro e w1 ⟨rfl, l1⟩
  replace d0 := Cells.below l1 d0
  replace l1 := bstep l0 l1
  replace d0 := Cells.alloc d0 (.cells #[.int .u8 x0, .int .u32 x1, .int .u16 x2, .int .u32 x3, .int .u16 x4, .int .i64 x5, .int .u8 x6, .bool x7, .int .u8 x8] 33)
  have f0 := Cells.new w1 #[.int .u8 x0, .int .u32 x1, .int .u16 x2, .int .u32 x3, .int .u16 x4, .int .i64 x5, .int .u8 x6, .bool x7, .int .u8 x8] 33
  replace l1 := bstep l1 (fresh_below _ (.cells #[.int .u8 x0, .int .u32 x1, .int .u16 x2, .int .u32 x3, .int .u16 x4, .int .i64 x5, .int .u8 x6, .bool x7, .int .u8 x8] 33))
  have xd0_0 : ((w1.alloc (.cells #[.int .u8 x0, .int .u32 x1, .int .u16 x2, .int .u32 x3, .int .u16 x4, .int .i64 x5, .int .u8 x6, .bool x7, .int .u8 x8] 33))).cell? ⟨w.heap.size, 0, none⟩ = some (.int .u32 a) := d0.at_ 0
  have xd0_1 : ((w1.alloc (.cells #[.int .u8 x0, .int .u32 x1, .int .u16 x2, .int .u32 x3, .int .u16 x4, .int .i64 x5, .int .u8 x6, .bool x7, .int .u8 x8] 33))).cell? ⟨w.heap.size, 1, none⟩ = some (.int .u16 b) := d0.at_ 1
  have xd0_2 : ((w1.alloc (.cells #[.int .u8 x0, .int .u32 x1, .int .u16 x2, .int .u32 x3, .int .u16 x4, .int .i64 x5, .int .u8 x6, .bool x7, .int .u8 x8] 33))).cell? ⟨w.heap.size, 2, none⟩ = some (.int .u32 c) := d0.at_ 2
  have xd0_3 : ((w1.alloc (.cells #[.int .u8 x0, .int .u32 x1, .int .u16 x2, .int .u32 x3, .int .u16 x4, .int .i64 x5, .int .u8 x6, .bool x7, .int .u8 x8] 33))).cell? ⟨w.heap.size, 3, none⟩ = some (.int .u16 d) := d0.at_ 3
  have F0 := hide f0; have B1 := hide l1
  clear f0 l1
  go_wp2_with fail
  have f0 := F0.out; have l1 := B1.out
  clear F0 B1 xd0_0 xd0_1 xd0_2 xd0_3 d0
  (with_reducible refine (P1.out _ (KK.out.below l1)).mono ?_)
  rintro e w2 ⟨rfl, l2⟩
  replace f0 := Cells.below l2 f0
  replace l2 := bstep l1 l2
  have xf0_0 : w2.cell? ⟨w1.heap.size, 0, none⟩ = some (.int .u8 x0) := f0.at_ 0
  have xf0_1 : w2.cell? ⟨w1.heap.size, 1, none⟩ = some (.int .u32 x1) := f0.at_ 1
  have xf0_2 : w2.cell? ⟨w1.heap.size, 2, none⟩ = some (.int .u16 x2) := f0.at_ 2
  have xf0_3 : w2.cell? ⟨w1.heap.size, 3, none⟩ = some (.int .u32 x3) := f0.at_ 3
  have xf0_4 : w2.cell? ⟨w1.heap.size, 4, none⟩ = some (.int .u16 x4) := f0.at_ 4
  have xf0_5 : w2.cell? ⟨w1.heap.size, 5, none⟩ = some (.int .i64 x5) := f0.at_ 5
  have xf0_6 : w2.cell? ⟨w1.heap.size, 6, none⟩ = some (.int .u8 x6) := f0.at_ 6
  have xf0_7 : w2.cell? ⟨w1.heap.size, 7, none⟩ = some (.bool x7) := f0.at_ 7
  have xf0_8 : w2.cell? ⟨w1.heap.size, 8, none⟩ = some (.int .u8 x8) := f0.at_ 8
  go_wp2_with fail
  clear xf0_0 xf0_1 xf0_2 xf0_3 xf0_4 xf0_5 xf0_6 xf0_7 xf0_8
  (with_reducible refine (P2.out _ (KK.out.below l2)).mono ?_)
  rintro e w3 ⟨rfl, l3⟩
  replace l3 := bstep l2 l3
  have b3 := l3
  go_wp2_with fail
  have qa := QA.out; have qb := QB.out; have qc := QC.out
  clear QA QB QC
  refine wp_region_held_drew (S := fun _ => True) (by kernel_rfl) trivial (fun _ => ?_)
  refine wpAnyH_take (i := 0) (v := ?v0_1) rfl (by kernel_rfl) (by kernel_rfl) (by kernel_rfl) (fun _ _ _ h => h) (Or.inl (And.intro (by kernel_rfl) ?q0_1)) trivial ?r0_1; (case q0_1 => (intro w _; (try dsimp only); (try go_simp); (try with_reducible rfl)))
  try simp only [Act.put, List.setIfInBounds_toArray, List.set_cons_zero, List.set_cons_succ, List.getElem_toArray, List.getElem_cons_succ, List.getElem_cons_zero]
  refine wpAnyH_take (i := 1) (v := ?v1_2) rfl (by kernel_rfl) (by kernel_rfl) (by kernel_rfl) (fun _ _ _ h => h) (Or.inl (And.intro (by kernel_rfl) ?q1_2)) trivial ?r1_2; (case q1_2 => (intro w _; (try dsimp only); (try go_simp); (try with_reducible rfl)))
  try simp only [Act.put, List.setIfInBounds_toArray, List.set_cons_zero, List.set_cons_succ, List.getElem_toArray, List.getElem_cons_succ, List.getElem_cons_zero]
  refine wpAnyH_take (i := 2) (v := ?v2_3) rfl (by kernel_rfl) (by kernel_rfl) (by kernel_rfl) (fun _ _ _ h => h) (Or.inl (And.intro (by kernel_rfl) ?q2_3)) trivial ?r2_3; (case q2_3 => (intro w _; (try dsimp only); (try go_simp); (try with_reducible rfl)))
  try simp only [Act.put, List.setIfInBounds_toArray, List.set_cons_zero, List.set_cons_succ, List.getElem_toArray, List.getElem_cons_succ, List.getElem_cons_zero]
  refine wpAnyH_take (i := 3) (v := ?v3_4) rfl (by kernel_rfl) (by kernel_rfl) (by kernel_rfl) (fun _ _ _ h => h) (Or.inl (And.intro (by kernel_rfl) ?q3_4)) trivial ?r3_4; (case q3_4 => (intro w _; (try dsimp only); (try go_simp); (try with_reducible rfl)))
  try simp only [Act.put, List.setIfInBounds_toArray, List.set_cons_zero, List.set_cons_succ, List.getElem_toArray, List.getElem_cons_succ, List.getElem_cons_zero]
  refine wpAnyH_take (i := 4) (v := ?v4_5) rfl (by kernel_rfl) (by kernel_rfl) (by kernel_rfl) (fun _ _ _ h => h) (Or.inl (And.intro (by kernel_rfl) ?q4_5)) trivial ?r4_5; (case q4_5 => (intro w _; (try dsimp only); (try go_simp); (try with_reducible rfl)))
  try simp only [Act.put, List.setIfInBounds_toArray, List.set_cons_zero, List.set_cons_succ, List.getElem_toArray, List.getElem_cons_succ, List.getElem_cons_zero]
  refine wpAnyH_take (i := 5) (v := ?v5_6) rfl (by kernel_rfl) (by kernel_rfl) (by kernel_rfl) (fun _ _ _ h => h) (Or.inl (And.intro (by kernel_rfl) ?q5_6)) trivial ?r5_6; (case q5_6 => (intro w _; (try dsimp only); (try go_simp); (try with_reducible rfl)))
  try simp only [Act.put, List.setIfInBounds_toArray, List.set_cons_zero, List.set_cons_succ, List.getElem_toArray, List.getElem_cons_succ, List.getElem_cons_zero]
  refine wpAnyH_take (i := 6) (v := ?v6_7) rfl (by kernel_rfl) (by kernel_rfl) (by kernel_rfl) (fun _ _ _ h => h) (Or.inl (And.intro (by kernel_rfl) ?q6_7)) trivial ?r6_7; (case q6_7 => (intro w _; (try dsimp only); (try go_simp); (try with_reducible rfl)))
  try simp only [Act.put, List.setIfInBounds_toArray, List.set_cons_zero, List.set_cons_succ, List.getElem_toArray, List.getElem_cons_succ, List.getElem_cons_zero]
  refine wpAnyH_take (i := 7) (v := ?v7_8) rfl (by kernel_rfl) (by kernel_rfl) (by kernel_rfl) (fun _ _ _ h => h) (Or.inl (And.intro (by kernel_rfl) ?q7_8)) trivial ?r7_8; (case q7_8 => (intro w _; (try dsimp only); (try go_simp); (try with_reducible rfl)))
  try simp only [Act.put, List.setIfInBounds_toArray, List.set_cons_zero, List.set_cons_succ, List.getElem_toArray, List.getElem_cons_succ, List.getElem_cons_zero]
  refine wpAnyH_take (i := 8) (v := ?v8_9) rfl (by kernel_rfl) (by kernel_rfl) (by kernel_rfl) (fun _ _ _ h => h) (Or.inl (And.intro (by kernel_rfl) ?q8_9)) trivial ?r8_9; (case q8_9 => (intro w _; (try dsimp only); (try go_simp); (try with_reducible rfl)))
  try simp only [Act.put, List.setIfInBounds_toArray, List.set_cons_zero, List.set_cons_succ, List.getElem_toArray, List.getElem_cons_succ, List.getElem_cons_zero]
  refine wpAnyH_take (i := 9) (v := ?v9_10) rfl (by kernel_rfl) (by kernel_rfl) (by kernel_rfl) (fun _ _ _ h => h) (Or.inl (And.intro (by kernel_rfl) ?q9_10)) trivial ?r9_10; (case q9_10 => (intro w _; (try dsimp only); (try go_simp); (try with_reducible rfl)))
  try simp only [Act.put, List.setIfInBounds_toArray, List.set_cons_zero, List.set_cons_succ, List.getElem_toArray, List.getElem_cons_succ, List.getElem_cons_zero]
  refine wpAnyH_take (i := 10) (v := ?v10_11) rfl (by kernel_rfl) (by kernel_rfl) (by kernel_rfl) (fun _ _ _ h => h) (Or.inl (And.intro (by kernel_rfl) ?q10_11)) trivial ?r10_11; (case q10_11 => (intro w _; (try dsimp only); (try go_simp); (try with_reducible rfl)))
  try simp only [Act.put, List.setIfInBounds_toArray, List.set_cons_zero, List.set_cons_succ, List.getElem_toArray, List.getElem_cons_succ, List.getElem_cons_zero]
  refine wpAnyH_take (i := 11) (v := ?v11_12) rfl (by kernel_rfl) (by kernel_rfl) (by kernel_rfl) (fun _ _ _ h => h) (Or.inl (And.intro (by kernel_rfl) ?q11_12)) trivial ?r11_12; (case q11_12 => (intro w _; (try dsimp only); (try go_simp); (try with_reducible rfl)))
  try simp only [Act.put, List.setIfInBounds_toArray, List.set_cons_zero, List.set_cons_succ, List.getElem_toArray, List.getElem_cons_succ, List.getElem_cons_zero]
  refine wpAnyH_take (i := 12) (v := ?v12_13) rfl (by kernel_rfl) (by kernel_rfl) (by kernel_rfl) (fun _ _ _ h => h) (Or.inl (And.intro (by kernel_rfl) ?q12_13)) trivial ?r12_13; (case q12_13 => (intro w _; (try dsimp only); (try go_simp); (try with_reducible rfl)))
  try simp only [Act.put, List.setIfInBounds_toArray, List.set_cons_zero, List.set_cons_succ, List.getElem_toArray, List.getElem_cons_succ, List.getElem_cons_zero]
  refine wpAnyH_take (i := 13) (v := ?v13_14) rfl (by kernel_rfl) (by kernel_rfl) (by kernel_rfl) (fun _ _ _ h => h) (Or.inl (And.intro (by kernel_rfl) ?q13_14)) trivial ?r13_14; (case q13_14 => (intro w _; (try dsimp only); (try go_simp); (try with_reducible rfl)))
  try simp only [Act.put, List.setIfInBounds_toArray, List.set_cons_zero, List.set_cons_succ, List.getElem_toArray, List.getElem_cons_succ, List.getElem_cons_zero]
  refine wpAnyH_take (i := 14) (v := ?v14_15) rfl (by kernel_rfl) (by kernel_rfl) (by kernel_rfl) (fun _ _ _ h => h) (Or.inl (And.intro (by kernel_rfl) ?q14_15)) trivial ?r14_15; (case q14_15 => (intro w _; (try dsimp only); (try go_simp); (try with_reducible rfl)))
  try simp only [Act.put, List.setIfInBounds_toArray, List.set_cons_zero, List.set_cons_succ, List.getElem_toArray, List.getElem_cons_succ, List.getElem_cons_zero]
  refine wpAnyH_take (i := 15) (v := ?v15_16) rfl (by kernel_rfl) (by kernel_rfl) (by kernel_rfl) (fun _ _ _ h => h) (Or.inl (And.intro (by kernel_rfl) ?q15_16)) trivial ?r15_16; (case q15_16 => (intro w _; (try dsimp only); (try go_simp); (try with_reducible rfl)))
  try simp only [Act.put, List.setIfInBounds_toArray, List.set_cons_zero, List.set_cons_succ, List.getElem_toArray, List.getElem_cons_succ, List.getElem_cons_zero]
  refine wpAnyH_take (i := 16) (v := ?v16_17) rfl (by kernel_rfl) (by kernel_rfl) (by kernel_rfl) (fun _ _ _ h => h) (Or.inl (And.intro (by kernel_rfl) ?q16_17)) trivial ?r16_17; (case q16_17 => (intro w _; (try dsimp only); (try go_simp); (try with_reducible rfl)))
  try simp only [Act.put, List.setIfInBounds_toArray, List.set_cons_zero, List.set_cons_succ, List.getElem_toArray, List.getElem_cons_succ, List.getElem_cons_zero]
  refine wpAnyH_take (i := 17) (v := ?v17_18) rfl (by kernel_rfl) (by kernel_rfl) (by kernel_rfl) (fun _ _ _ h => h) (Or.inl (And.intro (by kernel_rfl) ?q17_18)) trivial ?r17_18; (case q17_18 => (intro w _; (try dsimp only); (try go_simp); (try with_reducible rfl)))
  try simp only [Act.put, List.setIfInBounds_toArray, List.set_cons_zero, List.set_cons_succ, List.getElem_toArray, List.getElem_cons_succ, List.getElem_cons_zero]
  refine wpAnyH_take (i := 18) (v := ?v18_19) rfl (by kernel_rfl) (by kernel_rfl) (by kernel_rfl) (fun _ _ _ h => h) (Or.inl (And.intro (by kernel_rfl) ?q18_19)) trivial ?r18_19; (case q18_19 => (intro w _; (try dsimp only); (try go_simp); (try with_reducible rfl)))
  try simp only [Act.put, List.setIfInBounds_toArray, List.set_cons_zero, List.set_cons_succ, List.getElem_toArray, List.getElem_cons_succ, List.getElem_cons_zero]
  refine wpAnyH_take (i := 19) (v := ?v19_20) rfl (by kernel_rfl) (by kernel_rfl) (by kernel_rfl) (fun _ _ _ h => h) (Or.inl (And.intro (by kernel_rfl) ?q19_20)) trivial ?r19_20; (case q19_20 => (intro w _; (try dsimp only); (try go_simp); (try with_reducible rfl)))
  try simp only [Act.put, List.setIfInBounds_toArray, List.set_cons_zero, List.set_cons_succ, List.getElem_toArray, List.getElem_cons_succ, List.getElem_cons_zero]
  refine wpAnyH_take (i := 20) (v := ?v20_21) rfl (by kernel_rfl) (by kernel_rfl) (by kernel_rfl) (fun _ _ _ h => h) (Or.inl (And.intro (by kernel_rfl) ?q20_21)) trivial ?r20_21; (case q20_21 => (intro w _; (try dsimp only); (try go_simp); (try with_reducible rfl)))
  try simp only [Act.put, List.setIfInBounds_toArray, List.set_cons_zero, List.set_cons_succ, List.getElem_toArray, List.getElem_cons_succ, List.getElem_cons_zero]
  refine wpAnyH_take (i := 21) (v := ?v21_22) rfl (by kernel_rfl) (by kernel_rfl) (by kernel_rfl) (fun _ _ _ h => h) (Or.inl (And.intro (by kernel_rfl) ?q21_22)) trivial ?r21_22; (case q21_22 => (intro w _; (try dsimp only); (try go_simp); (try with_reducible rfl)))
  try simp only [Act.put, List.setIfInBounds_toArray, List.set_cons_zero, List.set_cons_succ, List.getElem_toArray, List.getElem_cons_succ, List.getElem_cons_zero]
  refine wpAnyH_take (i := 22) (v := ?v22_23) rfl (by kernel_rfl) (by kernel_rfl) (by kernel_rfl) (fun _ _ _ h => h) (Or.inl (And.intro (by kernel_rfl) ?q22_23)) trivial ?r22_23; (case q22_23 => (intro w _; (try dsimp only); (try go_simp); (try with_reducible rfl)))
  try simp only [Act.put, List.setIfInBounds_toArray, List.set_cons_zero, List.set_cons_succ, List.getElem_toArray, List.getElem_cons_succ, List.getElem_cons_zero]
  refine wpAnyH_take (i := 23) (v := ?v23_24) rfl (by kernel_rfl) (by kernel_rfl) (by kernel_rfl) (fun _ _ _ h => h) (Or.inl (And.intro (by kernel_rfl) ?q23_24)) trivial ?r23_24; (case q23_24 => (intro w _; (try dsimp only); (try go_simp); (try with_reducible rfl)))
  try simp only [Act.put, List.setIfInBounds_toArray, List.set_cons_zero, List.set_cons_succ, List.getElem_toArray, List.getElem_cons_succ, List.getElem_cons_zero]
  refine wpAnyH_take (i := 24) (v := ?v24_25) rfl (by kernel_rfl) (by kernel_rfl) (by kernel_rfl) (fun _ _ _ h => h) (Or.inl (And.intro (by kernel_rfl) ?q24_25)) trivial ?r24_25; (case q24_25 => (intro w _; (try dsimp only); (try go_simp); (try with_reducible rfl)))
  try simp only [Act.put, List.setIfInBounds_toArray, List.set_cons_zero, List.set_cons_succ, List.getElem_toArray, List.getElem_cons_succ, List.getElem_cons_zero]
  refine wpAnyH_take (i := 25) (v := ?v25_26) rfl (by kernel_rfl) (by kernel_rfl) (by kernel_rfl) (fun _ _ _ h => h) (Or.inl (And.intro (by kernel_rfl) ?q25_26)) trivial ?r25_26; (case q25_26 => (intro w _; (try dsimp only); (try go_simp); (try with_reducible rfl)))
  try simp only [Act.put, List.setIfInBounds_toArray, List.set_cons_zero, List.set_cons_succ, List.getElem_toArray, List.getElem_cons_succ, List.getElem_cons_zero]
  refine wpAnyH_done (by kernel_rfl) ?_ _
  go_wp2_with fail
  refine wp_region_held_drew (S := fun _ => True) (by kernel_rfl) trivial (fun _ => ?_)
  refine wpAnyH_take (i := 0) (v := ?v0_27) rfl (by kernel_rfl) (by kernel_rfl) (by kernel_rfl) (fun _ _ _ h => h) (Or.inl (And.intro (by kernel_rfl) ?q0_27)) trivial ?r0_27; (case q0_27 => (intro w _; (try dsimp only); (try go_simp); (try with_reducible rfl)))
  try simp only [Act.put, List.setIfInBounds_toArray, List.set_cons_zero, List.set_cons_succ, List.getElem_toArray, List.getElem_cons_succ, List.getElem_cons_zero]
  refine wpAnyH_take (i := 2) (v := ?v2_28) rfl (by kernel_rfl) (by kernel_rfl) (by kernel_rfl) (fun _ _ _ h => h) (Or.inl (And.intro (by kernel_rfl) ?q2_28)) trivial ?r2_28; (case q2_28 => (intro w _; (try dsimp only); (try go_simp); (try with_reducible rfl)))
  try simp only [Act.put, List.setIfInBounds_toArray, List.set_cons_zero, List.set_cons_succ, List.getElem_toArray, List.getElem_cons_succ, List.getElem_cons_zero]
  refine wpAnyH_take (i := 3) (v := ?v3_29) rfl (by kernel_rfl) (by kernel_rfl) (by kernel_rfl) (fun _ _ _ h => h) (Or.inl (And.intro (by kernel_rfl) ?q3_29)) trivial ?r3_29; (case q3_29 => (intro w _; (try dsimp only); (try go_simp); (try with_reducible rfl)))
  try simp only [Act.put, List.setIfInBounds_toArray, List.set_cons_zero, List.set_cons_succ, List.getElem_toArray, List.getElem_cons_succ, List.getElem_cons_zero]
  refine wpAnyH_take (i := 4) (v := ?v4_30) rfl (by kernel_rfl) (by kernel_rfl) (by kernel_rfl) (fun _ _ _ h => h) (Or.inl (And.intro (by kernel_rfl) ?q4_30)) trivial ?r4_30; (case q4_30 => (intro w _; (try dsimp only); (try go_simp); (try with_reducible rfl)))
  try simp only [Act.put, List.setIfInBounds_toArray, List.set_cons_zero, List.set_cons_succ, List.getElem_toArray, List.getElem_cons_succ, List.getElem_cons_zero]
  refine wpAnyH_take (i := 5) (v := ?v5_31) rfl (by kernel_rfl) (by kernel_rfl) (by kernel_rfl) (fun _ _ _ h => h) (Or.inl (And.intro (by kernel_rfl) ?q5_31)) trivial ?r5_31; (case q5_31 => (intro w _; (try dsimp only); (try go_simp); (try with_reducible rfl)))
  try simp only [Act.put, List.setIfInBounds_toArray, List.set_cons_zero, List.set_cons_succ, List.getElem_toArray, List.getElem_cons_succ, List.getElem_cons_zero]
  refine wpAnyH_ready (rs := [1]) (by kernel_rfl) (by simp) ?_
  refine AllReadyH.cons rfl (fun K hK => ?_) AllReadyH.nil
  rw [if_pos (by kernel_rfl)]
  (try simp only [List.getElem_toArray, List.getElem_cons_succ, List.getElem_cons_zero])
  go_simp
  (with_reducible refine (P6.out _ (KK.out.below (by (repeat' (first | with_reducible exact b3 | with_reducible exact Below.refl _ _ | with_reducible refine Below.setCell ?_ (by first | exact Nat.le_refl _ | (dsimp only; omega)) _ | with_reducible refine bstep ?_ (fresh_below _ _) | with_reducible refine Below.drew ?_))))).mono ?_)
  rintro e wJ1 ⟨rfl, bJ1⟩
  have rJ1 := bJ1
  replace bJ1 : Below w.heap.size w wJ1 := by (refine bstep ?_ bJ1); (repeat' (first | with_reducible exact b3 | with_reducible exact Below.refl _ _ | with_reducible refine Below.setCell ?_ (by first | exact Nat.le_refl _ | (dsimp only; omega)) _ | with_reducible refine bstep ?_ (fresh_below _ _) | with_reducible refine Below.drew ?_))
  try go_wp2_with fail
  refine hK.out _ _ trivial (fun _ => ?_)
  clear hK K
  try simp only [Act.put, List.setIfInBounds_toArray, List.set_cons_zero, List.set_cons_succ, List.getElem_toArray, List.getElem_cons_succ, List.getElem_cons_zero]
  refine wpAnyH_ready (rs := [6]) (by kernel_rfl) (by simp) ?_
  refine AllReadyH.cons rfl (fun K hK => ?_) AllReadyH.nil
  rw [if_pos (by kernel_rfl)]
  (try simp only [List.getElem_toArray, List.getElem_cons_succ, List.getElem_cons_zero])
  go_simp
  (with_reducible refine (P7.out _ (KK.out.below (by (repeat' (first | with_reducible exact bJ1 | with_reducible exact Below.refl _ _ | with_reducible refine Below.setCell ?_ (by first | exact Nat.le_refl _ | (dsimp only; omega)) _ | with_reducible refine bstep ?_ (fresh_below _ _) | with_reducible refine Below.drew ?_))))).mono ?_)
  rintro e wJ6 ⟨rfl, bJ6⟩
  have rJ6 := bJ6
  replace bJ6 : Below w.heap.size w wJ6 := by (refine bstep ?_ bJ6); (repeat' (first | with_reducible exact bJ1 | with_reducible exact Below.refl _ _ | with_reducible refine Below.setCell ?_ (by first | exact Nat.le_refl _ | (dsimp only; omega)) _ | with_reducible refine bstep ?_ (fresh_below _ _) | with_reducible refine Below.drew ?_))
  try go_wp2_with fail
  refine hK.out _ _ trivial (fun _ => ?_)
  clear hK K
  try simp only [Act.put, List.setIfInBounds_toArray, List.set_cons_zero, List.set_cons_succ, List.getElem_toArray, List.getElem_cons_succ, List.getElem_cons_zero]
  refine wpAnyH_take (i := 7) (v := ?v7_34) rfl (by kernel_rfl) (by kernel_rfl) (by kernel_rfl) (fun _ _ _ h => h) (Or.inl (And.intro (by kernel_rfl) ?q7_34)) trivial ?r7_34; (case q7_34 => (intro w _; (try dsimp only); (try go_simp); (try with_reducible rfl)))
  try simp only [Act.put, List.setIfInBounds_toArray, List.set_cons_zero, List.set_cons_succ, List.getElem_toArray, List.getElem_cons_succ, List.getElem_cons_zero]
  refine wpAnyH_take (i := 8) (v := ?v8_35) rfl (by kernel_rfl) (by kernel_rfl) (by kernel_rfl) (fun _ _ _ h => h) (Or.inl (And.intro (by kernel_rfl) ?q8_35)) trivial ?r8_35; (case q8_35 => (intro w _; (try dsimp only); (try go_simp); (try with_reducible rfl)))
  try simp only [Act.put, List.setIfInBounds_toArray, List.set_cons_zero, List.set_cons_succ, List.getElem_toArray, List.getElem_cons_succ, List.getElem_cons_zero]
  refine wpAnyH_ready (rs := [9]) (by kernel_rfl) (by simp) ?_
  refine AllReadyH.cons rfl (fun K hK => ?_) AllReadyH.nil
  rw [if_pos (by kernel_rfl)]
  (try simp only [List.getElem_toArray, List.getElem_cons_succ, List.getElem_cons_zero])
  go_simp
  (with_reducible refine (P5.out _ (TT.out.below (by (repeat' (first | with_reducible exact bJ6 | with_reducible exact Below.refl _ _ | with_reducible refine Below.setCell ?_ (by first | exact Nat.le_refl _ | (dsimp only; omega)) _ | with_reducible refine bstep ?_ (fresh_below _ _) | with_reducible refine Below.drew ?_))))).mono ?_)
  rintro e wJ9 ⟨rfl, bJ9⟩
  have rJ9 := bJ9
  replace bJ9 : Below w.heap.size w wJ9 := by (refine bstep ?_ bJ9); (repeat' (first | with_reducible exact bJ6 | with_reducible exact Below.refl _ _ | with_reducible refine Below.setCell ?_ (by first | exact Nat.le_refl _ | (dsimp only; omega)) _ | with_reducible refine bstep ?_ (fresh_below _ _) | with_reducible refine Below.drew ?_))
  try go_wp2_with fail
  refine hK.out _ _ trivial (fun _ => ?_)
  clear hK K
  try simp only [Act.put, List.setIfInBounds_toArray, List.set_cons_zero, List.set_cons_succ, List.getElem_toArray, List.getElem_cons_succ, List.getElem_cons_zero]
  refine wpAnyH_take (i := 10) (v := ?v10_37) rfl (by kernel_rfl) (by kernel_rfl) (by kernel_rfl) (fun _ _ _ h => h) (Or.inl (And.intro (by kernel_rfl) ?q10_37)) trivial ?r10_37; (case q10_37 => (intro w _; (try dsimp only); (try go_simp); (try with_reducible rfl)))
  try simp only [Act.put, List.setIfInBounds_toArray, List.set_cons_zero, List.set_cons_succ, List.getElem_toArray, List.getElem_cons_succ, List.getElem_cons_zero]
  refine wpAnyH_take (i := 11) (v := ?v11_38) rfl (by kernel_rfl) (by kernel_rfl) (by kernel_rfl) (fun _ _ _ h => h) (Or.inl (And.intro (by kernel_rfl) ?q11_38)) trivial ?r11_38; (case q11_38 => (intro w _; (try dsimp only); (try go_simp); (try with_reducible rfl)))
  try simp only [Act.put, List.setIfInBounds_toArray, List.set_cons_zero, List.set_cons_succ, List.getElem_toArray, List.getElem_cons_succ, List.getElem_cons_zero]
  refine wpAnyH_done (by kernel_rfl) ?_ _
  go_wp2_with fail
  go_ret
  exact ⟨rfl, (by (repeat' (first | with_reducible exact bJ9 | with_reducible exact Below.refl _ _ | with_reducible refine Below.setCell ?_ (by first | exact Nat.le_refl _ | (dsimp only; omega)) _ | with_reducible refine bstep ?_ (fresh_below _ _) | with_reducible refine Below.drew ?_)))⟩

theorem RewriteBack_walk (s : ByteArray) (a b c d : Int) (w : World) (T0 : Tabs w) (hs : s.size ≤ 140737488351232) (ha : 0 ≤ a ∧ a ≤ 4294967295) (hb : 0 ≤ b ∧ b ≤ 65535) (hc : 0 ≤ c ∧ c ≤ 4294967295) (hd : 0 ≤ d ∧ d ≤ 65535) :
    Calls Tryd.prog 4 #[.string s, .agg #[.int .u32 a, .int .u16 b, .int .u32 c, .int .u16 d]] w (Ret (.bool true) w) := by
  have p5 := fun W T => turned W T
  by_cases hl : (2500 : Int) < (s.size : Int)
  · exact back_long s a b c d w T0 hl p5
  have p0 := fun W K => taken_walk s 2 W K hs
  by_cases ht : seenWhy s = 0 ∧ 2 < (seenOf s).l ∧ 20 ≤ s.size
  · rw [decide_eq_true ht] at p0
    obtain ⟨h1, h2, h3⟩ := ht
    obtain ⟨e1, e2, e3, e4, e5, e6⟩ := rw_back h1 h2 ha hb hc hd _ rfl
    obtain ⟨_, f1, f2, _, z1, _⟩ := rw_seen h1 (by omega) ha hb hc hd _ rfl
    obtain ⟨H, P, R, es, wH, hw, hx, h8⟩ := taken_whole h1
    obtain ⟨xa, xc, _⟩ := load_ends (hdL H) (S P)
    obtain ⟨hb2, hd2⟩ := load_ports (hdL H) (S P)
    have ha2 : 0 ≤ (seenOf s).t.a ∧ (seenOf s).t.a ≤ 4294967295 := by rw [hx, xa]; exact be32_bd _ _
    have hc2 : 0 ≤ (seenOf s).t.c ∧ (seenOf s).t.c ≤ 4294967295 := by rw [hx, xc]; exact be32_bd _ _
    rw [← hx] at hb2 hd2
    have p1 := fun W K => rw_Apply a b c d s W K ha hb hc hd hs
    have p2 := fun W K => rw_Apply (seenOf s).t.a (seenOf s).t.b (seenOf s).t.c (seenOf s).t.d (rwOut s a b c d) W K ha2 hb2 hc2 hd2 (by omega)
    have hy : 2 ≤ at_ (L s) 8 ∧ at_ (L s) 8 ≤ 255 := by
      have : at_ (L s) 8 = at_ H 8 := by rw [es, L_S, List.append_assoc, at_left (by have := wH.h20; omega)]
      rw [h8] at h2
      exact ⟨by omega, (at_bd _ _).2⟩
    generalize rwOut (rwOut s a b c d) (seenOf s).t.a (seenOf s).t.b (seenOf s).t.c (seenOf s).t.d = u at *
    have p6 := fun W K => plain_walk u W K (by omega) (by omega)
    have p7 := fun W K => plain_walk (s.extract 0 u.size) W K (by rw [ByteArray.size_extract]; omega) (by rw [ByteArray.size_extract]; omega)
    rw [e1] at p1
    rw [e2] at p2
    rw [← e6] at p7
    have g1 : (((u[8]'(by omega)).toNat : Nat) : Int) = at_ (L s) 8 - 2 := by rw [getElem_L u 8 (by omega), ← e5]; rfl
    have g2 : (((s[8]'(by omega)).toNat : Nat) : Int) = at_ (L s) 8 := by rw [getElem_L s 8 (by omega)]; rfl
    generalize at_ (L s) 8 = y at *
    unfold Seen.cells at p0
    exact back_yes s _ u _ _ a b c d _ _ _ _ _ _ _ _ y _ w T0 hl (by omega) (by omega) (by omega) (by omega) (by omega) (by omega) (by omega) g1 g2 hy (IntWalk.u8_in _ (by omega)) rfl p5 p0 p1 p2 p6 p7
  · rw [decide_eq_false ht] at p0
    unfold Seen.cells at p0
    exact back_no s a b c d _ _ _ _ _ _ _ _ _ w T0 hl p5 p0
end Go.Proofs.YtpidgmamollmgaaDoor
end

section
/- How an argument that is a struct or an array (of whatever depth) of one-cell leaves reads: each cell by its place. No program. -/
set_option linter.unusedVariables false
namespace Go.Proofs.YtpidgmamollmgaaDoor
open Go.RowKit Go.ChangeShapes Go.WideShapes

/-- the type of the leaf at cell i of a value of type t -/
def leafAt (P : Program) : Nat → TypeId → Nat → Option TypeId
  | 0, _, _ => none
  | n + 1, t, i =>
    match P.underlying t with
    | some (.struct fs) =>
      match fs.toList.find? (fun f => decide (f.offset ≤ i) && decide (i < f.offset + P.cellsOf f.type)) with
      | some f => leafAt P n f.type (i - f.offset)
      | none => none
    | some (.array m e) => if i / P.cellsOf e < m then leafAt P n e (i % P.cellsOf e) else none
    | some (.int _) | some .bool | some .string | some (.slice _) => if i = 0 then some t else none
    | _ => none

section
variable {H : Type} {enc : TypeId × Value → H} {P : Program} {w : World} {base : Nat} {spare : Nat → Bool} {held : Bool}

/-- the cell at i, and that it reads by itself; D: what the whole weighs -/
def LeafIs (enc : TypeId × Value → H) (P : Program) (w : World) (base : Nat) (spare : Nat → Bool) (held : Bool) (D : List Nat) (cs : List Value) (i : Nat) (u : TypeId) : Prop :=
  ∃ v x n, cs[i]? = some v ∧ DataW.trod enc P w base spare held n u [v] = some x ∧ ∀ m ∈ x.1.weights P u, m ∈ D

theorem slice_at {cs : List Value} {o c j : Nat} {v : Value} (h : ((cs.drop o).take c)[j]? = some v) : cs[o + j]? = some v := by
  have hj : j < c := by
    have := (List.getElem?_eq_some_iff.1 h).1
    simp at this; omega
  rw [List.getElem?_take_of_lt hj, List.getElem?_drop] at h
  exact h
theorem weights_all {e : TypeId} : ∀ {ds : List (DataW H)} {j : Nat} {d : DataW H}, ds[j]? = some d → ∀ m ∈ d.weights P e, m ∈ DataW.weightsAll P e ds
  | d0 :: ds, 0, d, hd, m, hm => by
    simp only [List.getElem?_cons_zero, Option.some.injEq] at hd
    subst hd
    simp only [DataW.weightsAll, List.mem_append]; exact .inl hm
  | d0 :: ds, j + 1, d, hd, m, hm => by
    simp only [DataW.weightsAll, List.mem_append]
    exact .inr (weights_all (j := j) (by simpa using hd) m hm)

theorem leafAt_of : ∀ {n : Nat} {t : TypeId} {i : Nat} {u : TypeId} (_ : leafAt P n t i = some u) {fuel : Nat} {cs : List Value} {x : DataW H × List MemPlace},
    DataW.trod enc P w base spare held fuel t cs = some x → LeafIs enc P w base spare held (x.1.weights P t) cs i u
  | 0, _, _, _, h, _, _, _, _ => by cases h
  | n + 1, t, i, u, h, fuel, cs, x, hx => by
    unfold leafAt at h
    split at h
    · rename_i fs hfs
      split at h
      · rename_i f hf
        obtain ⟨xs, m, _, hxx, hlen, hxl, hg⟩ := DataW.trod_struct hfs hx
        have hp := List.find?_some hf
        simp only [Bool.and_eq_true, decide_eq_true_eq] at hp
        obtain ⟨j, hj⟩ := List.mem_iff_getElem?.1 (List.mem_of_find?_eq_some hf)
        have hjl : j < fs.size := by have := (List.getElem?_eq_some_iff.1 hj).1; simpa using this
        have h1 := hg j f (by rw [← Array.getElem?_toList]; exact hj)
        rw [List.getElem?_eq_getElem (by omega)] at h1
        obtain ⟨v, y, k, hv, hy, hw⟩ := leafAt_of h h1
        refine ⟨v, y, k, ?_, hy, fun q hq => ?_⟩
        · have := slice_at hv
          rwa [show f.offset + (i - f.offset) = i from by omega] at this
        · have h2 := hw q hq
          rw [hxx]
          simp only [DataW.weights, hfs]
          exact DataW.weights_mem_each (ts := fs.toList.map (·.type)) (ds := xs.map (·.1)) (j := j) (by rw [List.getElem?_map, hj]; rfl) (by rw [List.getElem?_map, List.getElem?_eq_getElem (by omega)]; rfl) q h2
      · cases h
    · rename_i m e he
      split at h
      · rename_i hm
        obtain ⟨xs, k, _, hxx, hlen, hxl, hg⟩ := DataW.trod_array he hx
        have h1 := hg (i / P.cellsOf e) hm
        rw [List.getElem?_eq_getElem (by omega)] at h1
        obtain ⟨v, y, k, hv, hy, hw⟩ := leafAt_of h h1
        refine ⟨v, y, k, ?_, hy, fun q hq => ?_⟩
        · have := slice_at hv
          rwa [Nat.mul_comm, Nat.div_add_mod] at this
        · have h2 := hw q hq
          rw [hxx]
          simp only [DataW.weights, he]
          exact weights_all (ds := xs.map (·.1)) (j := i / P.cellsOf e) (by rw [List.getElem?_map, List.getElem?_eq_getElem (by omega)]; rfl) q h2
      · cases h
    · split at h
      · rename_i hi
        subst hi
        injection h with h
        subst h
        obtain ⟨k, hk, _⟩ := DataW.trod_int (by assumption) hx
        exact ⟨_, x, fuel, by rw [hk]; rfl, by rw [← hk]; exact hx, fun q hq => hq⟩
      · cases h
    · split at h
      · rename_i hi
        subst hi
        injection h with h
        subst h
        obtain ⟨k, hk, _⟩ := DataW.trod_bool (by assumption) hx
        exact ⟨_, x, fuel, by rw [hk]; rfl, by rw [← hk]; exact hx, fun q hq => hq⟩
      · cases h
    · split at h
      · rename_i hi
        subst hi
        injection h with h
        subst h
        obtain ⟨k, hk, _⟩ := DataW.trod_string (by assumption) hx
        exact ⟨_, x, fuel, by rw [hk]; rfl, by rw [← hk]; exact hx, fun q hq => hq⟩
      · cases h
    · split at h
      · rename_i hi
        subst hi
        injection h with h
        subst h
        rcases DataW.trod_slice (by assumption) hx with ⟨hk, _⟩ | ⟨_, _, _, _, _, _, _, hk, _⟩
        · exact ⟨_, x, fuel, by rw [hk]; rfl, by rw [← hk]; exact hx, fun q hq => hq⟩
        · exact ⟨_, x, fuel, by rw [hk]; rfl, by rw [← hk]; exact hx, fun q hq => hq⟩
      · cases h
    · cases h

variable {D : List Nat} {cs : List Value} {i : Nat} {u : TypeId}
theorem leaf_int {k : IntKind} (h : LeafIs enc P w base spare held D cs i u) (hu : P.underlying u = some (.int k)) : ∃ n, cs[i]? = some (.int k n) ∧ (Lit.int k n).wf = true := by
  obtain ⟨v, x, n, hv, hx, _⟩ := h
  obtain ⟨m, hm, _, hw⟩ := DataW.trod_int hu hx
  exact ⟨m, by rw [hv]; injection hm with hm; rw [hm], hw⟩
theorem leaf_bool (h : LeafIs enc P w base spare held D cs i u) (hu : P.underlying u = some .bool) : ∃ b, cs[i]? = some (.bool b) := by
  obtain ⟨v, x, n, hv, hx, _⟩ := h
  obtain ⟨m, hm, _⟩ := DataW.trod_bool hu hx
  exact ⟨m, by rw [hv]; injection hm with hm; rw [hm]⟩
theorem leaf_string (h : LeafIs enc P w base spare held D cs i u) (hu : P.underlying u = some .string) (hD : ∀ m ∈ D, m ≤ reachBytes) : ∃ s, cs[i]? = some (.string s) ∧ s.size ≤ 140737488351232 := by
  obtain ⟨v, x, n, hv, hx, hw⟩ := h
  obtain ⟨m, hm, hx', _⟩ := DataW.trod_string hu hx
  refine ⟨m, by rw [hv]; injection hm with hm; rw [hm], ?_⟩
  exact hD _ (hw m.data.toList.length (by rw [hx']; simp [DataW.weights]))
theorem okWide_array {r : Reach} {b n : Nat} {t e : TypeId} {v : Value} (ht : P.underlying t = some (.array n e)) (h : Value.okWide P w r b t v) : ∃ cs, v = .agg cs ∧ cs.size = P.cellsOf t := by
  simp only [Value.okWide, ht] at h
  obtain ⟨cs, h1, h2, _⟩ := h
  exact ⟨cs, h1, h2⟩
theorem sized_at {ts : List TypeId} {ds : List (DataW H)} (h : (DataW.weightsEach P ts ds).all (· ≤ reachBytes) = true) {j : Nat} {t : TypeId} {d : DataW H} (ht : ts[j]? = some t) (hd : ds[j]? = some d) : ∀ m ∈ d.weights P t, m ≤ reachBytes := fun m hm => by
  have := List.all_eq_true.1 h _ (DataW.weights_mem_each ht hd m hm)
  simpa using this
end

theorem arr_ext {cs ds : Array Value} (hz : cs.size = ds.size) (h : ∀ j, j < ds.size → cs.toList[j]? = ds[j]?) : cs = ds := by
  refine Array.ext hz (fun j h1 h2 => ?_)
  have := h j h2
  rw [Array.getElem?_toList, Array.getElem?_eq_getElem h1, Array.getElem?_eq_getElem h2] at this
  exact Option.some.inj this
end Go.Proofs.YtpidgmamollmgaaDoor
end
