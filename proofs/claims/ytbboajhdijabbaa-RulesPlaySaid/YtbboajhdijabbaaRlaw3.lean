/- rules: the law's drafts: Flow. -/
import Derived.Test.YtbboajhdijabbaaRlaw2
set_option linter.unusedVariables false
set_option linter.unusedSimpArgs false
namespace Go.Proofs.Ytbboajhdijabbaa
open Go.RowKit Go.Lib
attribute [local go_sem] Oper.semAt_some

def pr3 (m : Int) : Int := if m = 0 then 1 else if m = 1 then 6 else 17
theorem ix_3 (m : Int) (h0 : 0 ≤ m) (h1 : m < 3) : ∀ w, (Instr.index 81 (.agg #[.int .u8 1, .int .u8 6, .int .u8 17]) (.int .u8 m)).run Try.prog w = .ok (.int .u8 (pr3 m)) w := by
  rcases (show m = 0 ∨ m = 1 ∨ m = 2 by omega) with h | h | h <;> subst h <;> exact fun _ => by kernel_rfl

/-- a draft's flow -/
def dFlow (a1 a2 a3 a4 a5 : Int) : Array Value := #[.int .u8 (pr3 (a1 % 3)), .int .u32 (167772160 + a4 % 4), .int .u16 (1 + a5 % 3), .int .u32 (16909060 + a2 % 3), .int .u16 (1 + a3 % 8)]

set_option maxHeartbeats 8000000 in
set_option maxRecDepth 100000 in
theorem l_Flow (w : World) (a0 a1 a2 a3 a4 a5 : Int) (h1 : 0 ≤ a1 ∧ a1 ≤ 255) (h2 : 0 ≤ a2 ∧ a2 ≤ 255) (h3 : 0 ≤ a3 ∧ a3 ≤ 255) (h4 : 0 ≤ a4 ∧ a4 ≤ 255) (h5 : 0 ≤ a5 ∧ a5 ≤ 255) :
    Calls Try.prog 21 #[.agg #[.int .u8 a0, .int .u8 a1, .int .u8 a2, .int .u8 a3, .int .u8 a4, .int .u8 a5]] w (Ret (.agg (dFlow a1 a2 a3 a4 a5)) w) := by
  unfold dFlow
  have i1 := ix_3 (a1 % 3) (by omega) (by omega)
  have t1 : a1.tmod 3 = a1 % 3 := by rw [Int.tmod_eq_emod_of_nonneg h1.1]
  have t2 : a2.tmod 3 = a2 % 3 := by rw [Int.tmod_eq_emod_of_nonneg h2.1]
  have t3 : a3.tmod 8 = a3 % 8 := by rw [Int.tmod_eq_emod_of_nonneg h3.1]
  have t4 : a4.tmod 4 = a4 % 4 := by rw [Int.tmod_eq_emod_of_nonneg h4.1]
  have t5 : a5.tmod 3 = a5 % 3 := by rw [Int.tmod_eq_emod_of_nonneg h5.1]
  have b1 : 0 ≤ a1 % 3 ∧ a1 % 3 < 3 := by omega
  have b2 : 0 ≤ a2 % 3 ∧ a2 % 3 < 3 := by omega
  have b3 : 0 ≤ a3 % 8 ∧ a3 % 8 < 8 := by omega
  have b4 : 0 ≤ a4 % 4 ∧ a4 % 4 < 4 := by omega
  have b5 : 0 ≤ a5 % 3 ∧ a5 % 3 < 3 := by omega
  generalize a1 % 3 = m1 at *; generalize a2 % 3 = m2 at *; generalize a3 % 8 = m3 at *; generalize a4 % 4 = m4 at *; generalize a5 % 3 = m5 at *
  obtain ⟨b1l, b1u⟩ := b1; obtain ⟨b2l, b2u⟩ := b2; obtain ⟨b3l, b3u⟩ := b3; obtain ⟨b4l, b4u⟩ := b4; obtain ⟨b5l, b5u⟩ := b5
  clear h1 h2 h3 h4 h5
  have u1 : IntKind.u16.wrap m3 = m3 := IntWalk.u16_in _ (by omega)
  have u2 : IntKind.u16.wrap (1 + m3) = 1 + m3 := IntWalk.u16_in _ (by omega)
  have u3 : IntKind.u32.wrap m4 = m4 := IntWalk.u32_in _ (by omega)
  have u4 : IntKind.u32.wrap (167772160 + m4) = 167772160 + m4 := IntWalk.u32_in _ (by omega)
  have u5 : IntKind.u16.wrap m5 = m5 := IntWalk.u16_in _ (by omega)
  have u6 : IntKind.u16.wrap (1 + m5) = 1 + m5 := IntWalk.u16_in _ (by omega)
  have u7 : IntKind.u32.wrap m2 = m2 := IntWalk.u32_in _ (by omega)
  have u8 : IntKind.u32.wrap (16909060 + m2) = 16909060 + m2 := IntWalk.u32_in _ (by omega)
  go_enter Try.func21, Try.ntmps21
  have d0 := Cells.new w #[.int .u8 a0, .int .u8 a1, .int .u8 a2, .int .u8 a3, .int .u8 a4, .int .u8 a5] 45
  replace d0 := Cells.below (fresh_below (w.alloc (.cells #[.int .u8 a0, .int .u8 a1, .int .u8 a2, .int .u8 a3, .int .u8 a4, .int .u8 a5] 45)) (.cells #[.int .u8 0, .int .u32 0, .int .u16 0, .int .u32 0, .int .u16 0] 49)) d0
  have d1 := Cells.new (w.alloc (.cells #[.int .u8 a0, .int .u8 a1, .int .u8 a2, .int .u8 a3, .int .u8 a4, .int .u8 a5] 45)) #[.int .u8 0, .int .u32 0, .int .u16 0, .int .u32 0, .int .u16 0] 49
  have l0 : Below w.heap.size w ((w.alloc (.cells #[.int .u8 a0, .int .u8 a1, .int .u8 a2, .int .u8 a3, .int .u8 a4, .int .u8 a5] 45)).alloc (.cells #[.int .u8 0, .int .u32 0, .int .u16 0, .int .u32 0, .int .u16 0] 49)) := (bstep (fresh_below _ _) (fresh_below _ _))
  simp only [World.size_alloc] at d1
  have L0 := hide l0; have D0 := hide d0; have D1 := hide d1
  clear l0 d0 d1
  go_upto_region 1 with fail
  have l0 := L0.out; have d0 := D0.out; have d1 := D1.out
  clear L0 D0 D1
  generalize ((w.alloc (.cells #[.int .u8 a0, .int .u8 a1, .int .u8 a2, .int .u8 a3, .int .u8 a4, .int .u8 a5] 45)).alloc (.cells #[.int .u8 0, .int .u32 0, .int .u16 0, .int .u32 0, .int .u16 0] 49)) = w1 at *
  have qd0_0 : ∀ W', Below w1.heap.size w1 W' → World.cell? W' ⟨w.heap.size, 0, none⟩ = some (.int .u8 a0) := fun W' h => Cells.at_ (Cells.below h d0) 0
  have qd0_1 : ∀ W', Below w1.heap.size w1 W' → World.cell? W' ⟨w.heap.size, 1, none⟩ = some (.int .u8 a1) := fun W' h => Cells.at_ (Cells.below h d0) 1
  have qd0_2 : ∀ W', Below w1.heap.size w1 W' → World.cell? W' ⟨w.heap.size, 2, none⟩ = some (.int .u8 a2) := fun W' h => Cells.at_ (Cells.below h d0) 2
  have qd0_3 : ∀ W', Below w1.heap.size w1 W' → World.cell? W' ⟨w.heap.size, 3, none⟩ = some (.int .u8 a3) := fun W' h => Cells.at_ (Cells.below h d0) 3
  have qd0_4 : ∀ W', Below w1.heap.size w1 W' → World.cell? W' ⟨w.heap.size, 4, none⟩ = some (.int .u8 a4) := fun W' h => Cells.at_ (Cells.below h d0) 4
  have qd0_5 : ∀ W', Below w1.heap.size w1 W' → World.cell? W' ⟨w.heap.size, 5, none⟩ = some (.int .u8 a5) := fun W' h => Cells.at_ (Cells.below h d0) 5
  have qd1_0 : ∀ W', Below w1.heap.size w1 W' → World.cell? W' ⟨w.heap.size + 1, 0, none⟩ = some (.int .u8 0) := fun W' h => Cells.at_ (Cells.below h d1) 0
  have qd1_1 : ∀ W', Below w1.heap.size w1 W' → World.cell? W' ⟨w.heap.size + 1, 1, none⟩ = some (.int .u32 0) := fun W' h => Cells.at_ (Cells.below h d1) 1
  have qd1_2 : ∀ W', Below w1.heap.size w1 W' → World.cell? W' ⟨w.heap.size + 1, 2, none⟩ = some (.int .u16 0) := fun W' h => Cells.at_ (Cells.below h d1) 2
  have qd1_3 : ∀ W', Below w1.heap.size w1 W' → World.cell? W' ⟨w.heap.size + 1, 3, none⟩ = some (.int .u32 0) := fun W' h => Cells.at_ (Cells.below h d1) 3
  have qd1_4 : ∀ W', Below w1.heap.size w1 W' → World.cell? W' ⟨w.heap.size + 1, 4, none⟩ = some (.int .u16 0) := fun W' h => Cells.at_ (Cells.below h d1) 4
  have bb : Below w1.heap.size w1 w1 := Below.refl _ _
  have L0 := hide l0; have D0 := hide d0; have D1 := hide d1
  clear l0 d0 d1
  have fz : ∀ W' i, Below w1.heap.size w1 W' → World.frozen? W' ⟨w.heap.size + 1, i, none⟩ = false := fun W' i h => Cells.free (Cells.below h D1.out) i
  focus
    refine wp_region_J [28] (fun W => Below w1.heap.size w1 W) (by kernel_rfl) (bb.drew) (fun hS0 => ?_)
    refine wpAnyJ_take (i := 0) (v := ?v0_1) rfl (by kernel_rfl) (by kernel_rfl) (by kernel_rfl) (by kernel_rfl) (fun _ _ _ h => h) (Or.inl (And.intro (by kernel_rfl) ?q0_1)) hS0 ?r0_1; (case q0_1 => (intro w hx; (try dsimp only); (try go_simp); (try with_reducible rfl)))
    (try simp only [Act.put, List.setIfInBounds_toArray, List.set_cons_zero, List.set_cons_succ, List.getElem_toArray, List.getElem_cons_succ, List.getElem_cons_zero])
    refine wpAnyJ_take (i := 1) (v := ?v1_2) rfl (by kernel_rfl) (by kernel_rfl) (by kernel_rfl) (by kernel_rfl) (fun _ _ _ h => h) (Or.inl (And.intro (by kernel_rfl) ?q1_2)) hS0 ?r1_2; (case q1_2 => (intro w hx; (try dsimp only); (try go_simp); (try with_reducible rfl)))
    (try simp only [Act.put, List.setIfInBounds_toArray, List.set_cons_zero, List.set_cons_succ, List.getElem_toArray, List.getElem_cons_succ, List.getElem_cons_zero])
    refine wpAnyJ_take (i := 2) (v := ?v2_3) rfl (by kernel_rfl) (by kernel_rfl) (by kernel_rfl) (by kernel_rfl) (fun _ _ _ h => h) (Or.inl (And.intro (by kernel_rfl) ?q2_3)) hS0 ?r2_3; (case q2_3 => (intro w hx; (try dsimp only); (try go_simp); (try with_reducible rfl)))
    (try simp only [Act.put, List.setIfInBounds_toArray, List.set_cons_zero, List.set_cons_succ, List.getElem_toArray, List.getElem_cons_succ, List.getElem_cons_zero])
    refine wpAnyJ_take (i := 3) (v := ?v3_4) rfl (by kernel_rfl) (by kernel_rfl) (by kernel_rfl) (by kernel_rfl) (fun _ _ _ h => h) (Or.inl (And.intro (by kernel_rfl) ?q3_4)) hS0 ?r3_4; (case q3_4 => (intro w hx; (try dsimp only); (try go_simp); (try with_reducible rfl)))
    (try simp only [Act.put, List.setIfInBounds_toArray, List.set_cons_zero, List.set_cons_succ, List.getElem_toArray, List.getElem_cons_succ, List.getElem_cons_zero])
    refine wpAnyJ_take (i := 4) (v := ?v4_5) rfl (by kernel_rfl) (by kernel_rfl) (by kernel_rfl) (by kernel_rfl) (fun _ _ _ h => h) (Or.inl (And.intro (by kernel_rfl) ?q4_5)) hS0 ?r4_5; (case q4_5 => (intro w hx; (try dsimp only); (try go_simp); (try with_reducible rfl)))
    (try simp only [Act.put, List.setIfInBounds_toArray, List.set_cons_zero, List.set_cons_succ, List.getElem_toArray, List.getElem_cons_succ, List.getElem_cons_zero])
    refine wpAnyJ_take (i := 5) (v := ?v5_6) rfl (by kernel_rfl) (by kernel_rfl) (by kernel_rfl) (by kernel_rfl) (fun _ _ _ h => h) (Or.inl (And.intro (by kernel_rfl) ?q5_6)) hS0 ?r5_6; (case q5_6 => (intro w hx; (try dsimp only); (try go_simp); (try with_reducible rfl)))
    (try simp only [Act.put, List.setIfInBounds_toArray, List.set_cons_zero, List.set_cons_succ, List.getElem_toArray, List.getElem_cons_succ, List.getElem_cons_zero])
    refine wpAnyJ_take (i := 6) (v := ?v6_7) rfl (by kernel_rfl) (by kernel_rfl) (by kernel_rfl) (by kernel_rfl) (fun _ _ _ h => h) (Or.inl (And.intro (by kernel_rfl) ?q6_7)) hS0 ?r6_7; (case q6_7 => (intro w hx; (try dsimp only); (try go_simp); (try with_reducible rfl)))
    (try simp only [Act.put, List.setIfInBounds_toArray, List.set_cons_zero, List.set_cons_succ, List.getElem_toArray, List.getElem_cons_succ, List.getElem_cons_zero])
    refine wpAnyJ_take (i := 7) (v := ?v7_8) rfl (by kernel_rfl) (by kernel_rfl) (by kernel_rfl) (by kernel_rfl) (fun _ _ _ h => h) (Or.inl (And.intro (by kernel_rfl) ?q7_8)) hS0 ?r7_8; (case q7_8 => (intro w hx; (try dsimp only); (try go_simp); (try with_reducible rfl)))
    (try simp only [Act.put, List.setIfInBounds_toArray, List.set_cons_zero, List.set_cons_succ, List.getElem_toArray, List.getElem_cons_succ, List.getElem_cons_zero])
    refine wpAnyJ_take (i := 8) (v := ?v8_9) rfl (by kernel_rfl) (by kernel_rfl) (by kernel_rfl) (by kernel_rfl) (fun _ _ _ h => h) (Or.inl (And.intro (by kernel_rfl) ?q8_9)) hS0 ?r8_9; (case q8_9 => (intro w hx; (try dsimp only); (try go_simp); (try with_reducible rfl)))
    (try simp only [Act.put, List.setIfInBounds_toArray, List.set_cons_zero, List.set_cons_succ, List.getElem_toArray, List.getElem_cons_succ, List.getElem_cons_zero])
    refine wpAnyJ_take (i := 9) (v := ?v9_10) rfl (by kernel_rfl) (by kernel_rfl) (by kernel_rfl) (by kernel_rfl) (fun _ _ _ h => h) (Or.inl (And.intro (by kernel_rfl) ?q9_10)) hS0 ?r9_10; (case q9_10 => (intro w hx; (try dsimp only); (try go_simp); (try with_reducible rfl)))
    (try simp only [Act.put, List.setIfInBounds_toArray, List.set_cons_zero, List.set_cons_succ, List.getElem_toArray, List.getElem_cons_succ, List.getElem_cons_zero])
    refine wpAnyJ_take (i := 10) (v := ?v10_11) rfl (by kernel_rfl) (by kernel_rfl) (by kernel_rfl) (by kernel_rfl) (fun _ _ _ h => h) (Or.inl (And.intro (by kernel_rfl) ?q10_11)) hS0 ?r10_11; (case q10_11 => (intro w hx; (try dsimp only); (try go_simp); (try with_reducible rfl)))
    (try simp only [Act.put, List.setIfInBounds_toArray, List.set_cons_zero, List.set_cons_succ, List.getElem_toArray, List.getElem_cons_succ, List.getElem_cons_zero])
    refine wpAnyJ_take (i := 11) (v := ?v11_12) rfl (by kernel_rfl) (by kernel_rfl) (by kernel_rfl) (by kernel_rfl) (fun _ _ _ h => h) (Or.inl (And.intro (by kernel_rfl) ?q11_12)) hS0 ?r11_12; (case q11_12 => (intro w hx; (try dsimp only); (try go_simp); (try with_reducible rfl)))
    (try simp only [Act.put, List.setIfInBounds_toArray, List.set_cons_zero, List.set_cons_succ, List.getElem_toArray, List.getElem_cons_succ, List.getElem_cons_zero])
    refine wpAnyJ_take (i := 12) (v := ?v12_13) rfl (by kernel_rfl) (by kernel_rfl) (by kernel_rfl) (by kernel_rfl) (fun _ _ _ h => h) (Or.inl (And.intro (by kernel_rfl) ?q12_13)) hS0 ?r12_13; (case q12_13 => (intro w hx; (try dsimp only); (try go_simp); (try with_reducible rfl)))
    (try simp only [Act.put, List.setIfInBounds_toArray, List.set_cons_zero, List.set_cons_succ, List.getElem_toArray, List.getElem_cons_succ, List.getElem_cons_zero])
    refine wpAnyJ_take (i := 13) (v := ?v13_14) rfl (by kernel_rfl) (by kernel_rfl) (by kernel_rfl) (by kernel_rfl) (fun _ _ _ h => h) (Or.inl (And.intro (by kernel_rfl) ?q13_14)) hS0 ?r13_14; (case q13_14 => (intro w hx; (try dsimp only); (try go_simp); (try with_reducible rfl)))
    (try simp only [Act.put, List.setIfInBounds_toArray, List.set_cons_zero, List.set_cons_succ, List.getElem_toArray, List.getElem_cons_succ, List.getElem_cons_zero])
    refine wpAnyJ_take (i := 14) (v := ?v14_15) rfl (by kernel_rfl) (by kernel_rfl) (by kernel_rfl) (by kernel_rfl) (fun _ _ _ h => h) (Or.inl (And.intro (by kernel_rfl) ?q14_15)) hS0 ?r14_15; (case q14_15 => (intro w hx; (try dsimp only); (try go_simp); (try with_reducible rfl)))
    (try simp only [Act.put, List.setIfInBounds_toArray, List.set_cons_zero, List.set_cons_succ, List.getElem_toArray, List.getElem_cons_succ, List.getElem_cons_zero])
    refine wpAnyJ_take (i := 15) (v := ?v15_16) rfl (by kernel_rfl) (by kernel_rfl) (by kernel_rfl) (by kernel_rfl) (fun _ _ _ h => h) (Or.inl (And.intro (by kernel_rfl) ?q15_16)) hS0 ?r15_16; (case q15_16 => (intro w hx; (try dsimp only); (try go_simp); (try with_reducible rfl)))
    (try simp only [Act.put, List.setIfInBounds_toArray, List.set_cons_zero, List.set_cons_succ, List.getElem_toArray, List.getElem_cons_succ, List.getElem_cons_zero])
    refine wpAnyJ_take (i := 16) (v := ?v16_17) rfl (by kernel_rfl) (by kernel_rfl) (by kernel_rfl) (by kernel_rfl) (fun _ _ _ h => h) (Or.inl (And.intro (by kernel_rfl) ?q16_17)) hS0 ?r16_17; (case q16_17 => (intro w hx; (try dsimp only); (try go_simp); (try with_reducible rfl)))
    (try simp only [Act.put, List.setIfInBounds_toArray, List.set_cons_zero, List.set_cons_succ, List.getElem_toArray, List.getElem_cons_succ, List.getElem_cons_zero])
    refine wpAnyJ_take (i := 17) (v := ?v17_18) rfl (by kernel_rfl) (by kernel_rfl) (by kernel_rfl) (by kernel_rfl) (fun _ _ _ h => h) (Or.inl (And.intro (by kernel_rfl) ?q17_18)) hS0 ?r17_18; (case q17_18 => (intro w hx; (try dsimp only); (try go_simp); (try with_reducible rfl)))
    (try simp only [Act.put, List.setIfInBounds_toArray, List.set_cons_zero, List.set_cons_succ, List.getElem_toArray, List.getElem_cons_succ, List.getElem_cons_zero])
    refine wpAnyJ_take (i := 18) (v := ?v18_19) rfl (by kernel_rfl) (by kernel_rfl) (by kernel_rfl) (by kernel_rfl) (fun _ _ _ h => h) (Or.inl (And.intro (by kernel_rfl) ?q18_19)) hS0 ?r18_19; (case q18_19 => (intro w hx; (try dsimp only); (try go_simp); (try with_reducible rfl)))
    (try simp only [Act.put, List.setIfInBounds_toArray, List.set_cons_zero, List.set_cons_succ, List.getElem_toArray, List.getElem_cons_succ, List.getElem_cons_zero])
    refine wpAnyJ_take (i := 19) (v := ?v19_20) rfl (by kernel_rfl) (by kernel_rfl) (by kernel_rfl) (by kernel_rfl) (fun _ _ _ h => h) (Or.inl (And.intro (by kernel_rfl) ?q19_20)) hS0 ?r19_20; (case q19_20 => (intro w hx; (try dsimp only); (try go_simp); (try with_reducible rfl)))
    (try simp only [Act.put, List.setIfInBounds_toArray, List.set_cons_zero, List.set_cons_succ, List.getElem_toArray, List.getElem_cons_succ, List.getElem_cons_zero])
    refine wpAnyJ_take (i := 20) (v := ?v20_21) rfl (by kernel_rfl) (by kernel_rfl) (by kernel_rfl) (by kernel_rfl) (fun _ _ _ h => h) (Or.inl (And.intro (by kernel_rfl) ?q20_21)) hS0 ?r20_21; (case q20_21 => (intro w hx; (try dsimp only); (try go_simp); (try with_reducible rfl)))
    (try simp only [Act.put, List.setIfInBounds_toArray, List.set_cons_zero, List.set_cons_succ, List.getElem_toArray, List.getElem_cons_succ, List.getElem_cons_zero])
    refine wpAnyJ_take (i := 21) (v := ?v21_22) rfl (by kernel_rfl) (by kernel_rfl) (by kernel_rfl) (by kernel_rfl) (fun _ _ _ h => h) (Or.inl (And.intro (by kernel_rfl) ?q21_22)) hS0 ?r21_22; (case q21_22 => (intro w hx; (try dsimp only); (try go_simp); (try with_reducible rfl)))
    (try simp only [Act.put, List.setIfInBounds_toArray, List.set_cons_zero, List.set_cons_succ, List.getElem_toArray, List.getElem_cons_succ, List.getElem_cons_zero])
    refine wpAnyJ_take (i := 22) (v := ?v22_23) rfl (by kernel_rfl) (by kernel_rfl) (by kernel_rfl) (by kernel_rfl) (fun _ _ _ h => h) (Or.inl (And.intro (by kernel_rfl) ?q22_23)) hS0 ?r22_23; (case q22_23 => (intro w hx; (try dsimp only); (try go_simp); (try with_reducible rfl)))
    (try simp only [Act.put, List.setIfInBounds_toArray, List.set_cons_zero, List.set_cons_succ, List.getElem_toArray, List.getElem_cons_succ, List.getElem_cons_zero])
    refine wpAnyJ_take (i := 23) (v := ?v23_24) rfl (by kernel_rfl) (by kernel_rfl) (by kernel_rfl) (by kernel_rfl) (fun _ _ _ h => h) (Or.inl (And.intro (by kernel_rfl) ?q23_24)) hS0 ?r23_24; (case q23_24 => (intro w hx; (try dsimp only); (try go_simp); (try with_reducible rfl)))
    (try simp only [Act.put, List.setIfInBounds_toArray, List.set_cons_zero, List.set_cons_succ, List.getElem_toArray, List.getElem_cons_succ, List.getElem_cons_zero])
    refine wpAnyJ_take (i := 24) (v := ?v24_25) rfl (by kernel_rfl) (by kernel_rfl) (by kernel_rfl) (by kernel_rfl) (fun _ _ _ h => h) (Or.inl (And.intro (by kernel_rfl) ?q24_25)) hS0 ?r24_25; (case q24_25 => (intro w hx; (try dsimp only); (try go_simp); (try with_reducible rfl)))
    (try simp only [Act.put, List.setIfInBounds_toArray, List.set_cons_zero, List.set_cons_succ, List.getElem_toArray, List.getElem_cons_succ, List.getElem_cons_zero])
    refine wpAnyJ_take (i := 25) (v := ?v25_26) rfl (by kernel_rfl) (by kernel_rfl) (by kernel_rfl) (by kernel_rfl) (fun _ _ _ h => h) (Or.inl (And.intro (by kernel_rfl) ?q25_26)) hS0 ?r25_26; (case q25_26 => (intro w hx; (try dsimp only); (try go_simp); (try with_reducible rfl)))
    (try simp only [Act.put, List.setIfInBounds_toArray, List.set_cons_zero, List.set_cons_succ, List.getElem_toArray, List.getElem_cons_succ, List.getElem_cons_zero])
    refine wpAnyJ_take (i := 26) (v := ?v26_27) rfl (by kernel_rfl) (by kernel_rfl) (by kernel_rfl) (by kernel_rfl) (fun _ _ _ h => h) (Or.inl (And.intro (by kernel_rfl) ?q26_27)) hS0 ?r26_27; (case q26_27 => (intro w hx; (try dsimp only); (try go_simp); (try with_reducible rfl)))
    (try simp only [Act.put, List.setIfInBounds_toArray, List.set_cons_zero, List.set_cons_succ, List.getElem_toArray, List.getElem_cons_succ, List.getElem_cons_zero])
    refine wpAnyJ_take (i := 27) (v := ?v27_28) rfl (by kernel_rfl) (by kernel_rfl) (by kernel_rfl) (by kernel_rfl) (fun _ _ _ h => h) (Or.inl (And.intro (by kernel_rfl) ?q27_28)) hS0 ?r27_28; (case q27_28 => (intro w hx; (try dsimp only); (try go_simp); (try with_reducible rfl)))
    (try simp only [Act.put, List.setIfInBounds_toArray, List.set_cons_zero, List.set_cons_succ, List.getElem_toArray, List.getElem_cons_succ, List.getElem_cons_zero])
    refine wpAnyJ_ready (rs := [28]) (by kernel_rfl) (by simp) ?_
    refine (AllReadyJ.last rfl (by kernel_rfl) (fun K hK => ?_) AllReadyJ.nil)
    rw [if_pos (by kernel_rfl)]
    (try simp only [List.getElem_toArray, List.getElem_cons_succ, List.getElem_cons_zero])
    (focus go_simp)
    refine hK.out _ _ ?_
    clear hK K
    (try simp only [Act.put, List.setIfInBounds_toArray, List.set_cons_zero, List.set_cons_succ, List.getElem_toArray, List.getElem_cons_succ, List.getElem_cons_zero])
    refine wpAnyJ_done (by kernel_rfl) ?_ _
  have d5 := D1.out; have l5 := L0.out
  clear qd0_0 qd0_1 qd0_2 qd0_3 qd0_4 qd0_5 qd1_0 qd1_1 qd1_2 qd1_3 qd1_4 fz bb hS0 D0 D1 L0
  have r5 := (Cells.put5 d5 (.int .u8 (pr3 m1)) (.int .u32 (167772160 + m4)) (.int .u16 (1 + m5)) (.int .u32 (16909060 + m2)) (.int .u16 (1 + m3))).drew
  have b5 := (Below.put5 l5 (b := w.heap.size + 1) (by first | exact Nat.le_refl _ | omega) (.int .u8 (pr3 m1)) (.int .u32 (167772160 + m4)) (.int .u16 (1 + m5)) (.int .u32 (16909060 + m2)) (.int .u16 (1 + m3))).drew
  have HR5 := hide r5; have HB5 := hide b5
  clear r5 b5 d5
  generalize (((((w1.setCell ⟨w.heap.size + 1, 0, none⟩ (.int .u8 (pr3 m1))).setCell ⟨w.heap.size + 1, 1, none⟩ (.int .u32 (167772160 + m4))).setCell ⟨w.heap.size + 1, 2, none⟩ (.int .u16 (1 + m5))).setCell ⟨w.heap.size + 1, 3, none⟩ (.int .u32 (16909060 + m2))).setCell ⟨w.heap.size + 1, 4, none⟩ (.int .u16 (1 + m3))).drew = W5 at *
  have r5 := HR5.out; have b5 := HB5.out
  clear HR5 HB5
  have xr5_0 : W5.cell? ⟨w.heap.size + 1, 0, none⟩ = some (.int .u8 (pr3 m1)) := r5.at_ 0
  have xr5_1 : W5.cell? ⟨w.heap.size + 1, 1, none⟩ = some (.int .u32 (167772160 + m4)) := r5.at_ 1
  have xr5_2 : W5.cell? ⟨w.heap.size + 1, 2, none⟩ = some (.int .u16 (1 + m5)) := r5.at_ 2
  have xr5_3 : W5.cell? ⟨w.heap.size + 1, 3, none⟩ = some (.int .u32 (16909060 + m2)) := r5.at_ 3
  have xr5_4 : W5.cell? ⟨w.heap.size + 1, 4, none⟩ = some (.int .u16 (1 + m3)) := r5.at_ 4
  go_wp2_with fail
  (try simp only [Exit.inBlock, Exit.then]); refine bodyPost_ret (by simp [results, Try.results21, go_sem, *]; try rfl) rfl ?_
  exact ⟨rfl, b5⟩
end Go.Proofs.Ytbboajhdijabbaa
