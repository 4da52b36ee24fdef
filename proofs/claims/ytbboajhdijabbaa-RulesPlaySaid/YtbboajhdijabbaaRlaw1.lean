/- rules: the law's drafts: Rule. -/
import Derived.Test.YtbboajhdijabbaaRule21
import Derived.Test.YtbboajhdijabbaaJ
import Derived.Deep.Upon
import Derived.Deep.RegionHeldLaw
set_option linter.unusedVariables false
set_option linter.unusedSimpArgs false
namespace Go.Proofs.Ytbboajhdijabbaa
open Go.RowKit Go.Lib
attribute [local go_sem] Oper.semAt_some

theorem Cells.as {w : World} {b : Nat} {cs cs' : Array Value} {T : TypeId} (h : Cells w b cs T) (e : cs = cs') : Cells w b cs' T := e ▸ h
def pr2 (m : Int) : Int := if m = 0 then 6 else 17
def pr4 (m : Int) : Int := if m = 0 then 0 else if m = 1 then 1 else if m = 2 then 6 else 17
def pxI (m : Int) : Int := if m = 0 then 0 else if m = 1 then 167772160 else if m = 2 then 167772160 else 167772162
def pxB (m : Int) : Int := if m = 0 then 0 else if m = 1 then 8 else if m = 2 then 31 else 32
def qxI (m : Int) : Int := if m = 0 then 0 else if m = 1 then 16909056 else 16909060
def qxB (m : Int) : Int := if m = 0 then 0 else if m = 1 then 24 else 32
theorem ix_2 (m : Int) (h0 : 0 ≤ m) (h1 : m < 2) : ∀ w, (Instr.index 86 (.agg #[.int .u8 6, .int .u8 17]) (.int .u8 m)).run Try.prog w = .ok (.int .u8 (pr2 m)) w := by
  rcases (show m = 0 ∨ m = 1 by omega) with h | h <;> subst h <;> exact fun _ => by kernel_rfl
theorem ix_4 (m : Int) (h0 : 0 ≤ m) (h1 : m < 4) : ∀ w, (Instr.index 87 (.agg #[.int .u8 0, .int .u8 1, .int .u8 6, .int .u8 17]) (.int .u8 m)).run Try.prog w = .ok (.int .u8 (pr4 m)) w := by
  rcases (show m = 0 ∨ m = 1 ∨ m = 2 ∨ m = 3 by omega) with h | h | h | h <;> subst h <;> exact fun _ => by kernel_rfl
theorem ix_p (m : Int) (h0 : 0 ≤ m) (h1 : m < 4) : ∀ w, (Instr.index 88 (.agg #[.int .u32 0, .int .i64 0, .int .u32 167772160, .int .i64 8, .int .u32 167772160, .int .i64 31, .int .u32 167772162, .int .i64 32]) (.int .u8 m)).run Try.prog w = .ok (.agg #[.int .u32 (pxI m), .int .i64 (pxB m)]) w := by
  rcases (show m = 0 ∨ m = 1 ∨ m = 2 ∨ m = 3 by omega) with h | h | h | h <;> subst h <;> exact fun _ => by kernel_rfl
theorem ix_q (m : Int) (h0 : 0 ≤ m) (h1 : m < 3) : ∀ w, (Instr.index 89 (.agg #[.int .u32 0, .int .i64 0, .int .u32 16909056, .int .i64 24, .int .u32 16909060, .int .i64 32]) (.int .u8 m)).run Try.prog w = .ok (.agg #[.int .u32 (qxI m), .int .i64 (qxB m)]) w := by
  rcases (show m = 0 ∨ m = 1 ∨ m = 2 by omega) with h | h | h <;> subst h <;> exact fun _ => by kernel_rfl

/-- a draft's rule -/
def dRule (a0 a1 a2 a3 a4 a5 : Int) : Rule :=
  if a0 % 3 = 0 then ⟨3, pr2 (a1 % 2), 0, 0, 0, 0, 151587081 + a2 % 3, 1 + a3 % 8, 1 + a3 % 8, 167772160 + a4 % 4, 1 + a5 % 3⟩
  else ⟨if a0 % 3 = 1 then 2 else 1, pr4 (a1 % 4), pxI (a4 % 4), pxB (a4 % 4), qxI (a5 % 3), qxB (a5 % 3), if a0 % 3 = 1 then 0 else 151587081 + a2 % 3, 4 + a3 % 8, 4 + a3 % 8 + a3 / 8 % 4, 0, 0⟩

set_option maxHeartbeats 8000000 in
set_option maxRecDepth 100000 in
theorem l_Rule_3 (w : World) (a0 a1 a2 a3 a4 a5 : Int) (h0 : 0 ≤ a0 ∧ a0 ≤ 255) (h1 : 0 ≤ a1 ∧ a1 ≤ 255) (h2 : 0 ≤ a2 ∧ a2 ≤ 255) (h3 : 0 ≤ a3 ∧ a3 ≤ 255) (h4 : 0 ≤ a4 ∧ a4 ≤ 255) (h5 : 0 ≤ a5 ∧ a5 ≤ 255) (hz : a0 % 3 = 0) :
    Calls Try.prog 27 #[.agg #[.int .u8 a0, .int .u8 a1, .int .u8 a2, .int .u8 a3, .int .u8 a4, .int .u8 a5]] w (Ret (.agg (dRule a0 a1 a2 a3 a4 a5).cells) w) := by
  obtain ⟨R, hR⟩ : ∃ R, R = dRule a0 a1 a2 a3 a4 a5 := ⟨_, rfl⟩
  rw [← hR]
  unfold dRule at hR
  rw [if_pos hz] at hR
  have i2 := ix_2 (a1 % 2) (by omega) (by omega)
  have t1 : a1.tmod 2 = a1 % 2 := by rw [Int.tmod_eq_emod_of_nonneg h1.1]
  have t2 : a2.tmod 3 = a2 % 3 := by rw [Int.tmod_eq_emod_of_nonneg h2.1]
  have t3 : a3.tmod 8 = a3 % 8 := by rw [Int.tmod_eq_emod_of_nonneg h3.1]
  have t4 : a4.tmod 4 = a4 % 4 := by rw [Int.tmod_eq_emod_of_nonneg h4.1]
  have t5 : a5.tmod 3 = a5 % 3 := by rw [Int.tmod_eq_emod_of_nonneg h5.1]
  have t0 : a0.tmod 3 = a0 % 3 := by rw [Int.tmod_eq_emod_of_nonneg h0.1]
  have b1 : 0 ≤ a1 % 2 ∧ a1 % 2 < 2 := by omega
  have b2 : 0 ≤ a2 % 3 ∧ a2 % 3 < 3 := by omega
  have b3 : 0 ≤ a3 % 8 ∧ a3 % 8 < 8 := by omega
  have b4 : 0 ≤ a4 % 4 ∧ a4 % 4 < 4 := by omega
  have b5 : 0 ≤ a5 % 3 ∧ a5 % 3 < 3 := by omega
  generalize a1 % 2 = m1 at *; generalize a2 % 3 = m2 at *; generalize a3 % 8 = m3 at *; generalize a4 % 4 = m4 at *; generalize a5 % 3 = m5 at *
  generalize a0 % 3 = m0 at *
  subst hz
  obtain ⟨b1l, b1u⟩ := b1; obtain ⟨b2l, b2u⟩ := b2; obtain ⟨b3l, b3u⟩ := b3; obtain ⟨b4l, b4u⟩ := b4; obtain ⟨b5l, b5u⟩ := b5
  obtain ⟨h0l, h0u⟩ := h0
  have HR := hide hR
  clear hR h1 h2 h3 h4 h5
  have u1 : IntKind.u16.wrap m3 = m3 := IntWalk.u16_in _ (by omega)
  have u2 : IntKind.u16.wrap (1 + m3) = 1 + m3 := IntWalk.u16_in _ (by omega)
  have u3 : IntKind.u32.wrap m4 = m4 := IntWalk.u32_in _ (by omega)
  have u4 : IntKind.u32.wrap (167772160 + m4) = 167772160 + m4 := IntWalk.u32_in _ (by omega)
  have u5 : IntKind.u16.wrap m5 = m5 := IntWalk.u16_in _ (by omega)
  have u6 : IntKind.u16.wrap (1 + m5) = 1 + m5 := IntWalk.u16_in _ (by omega)
  go_enter Try.func27, Try.ntmps27
  have d0 := Cells.new w #[.int .u8 a0, .int .u8 a1, .int .u8 a2, .int .u8 a3, .int .u8 a4, .int .u8 a5] 45
  replace d0 := Cells.below (fresh_below (w.alloc (.cells #[.int .u8 a0, .int .u8 a1, .int .u8 a2, .int .u8 a3, .int .u8 a4, .int .u8 a5] 45)) (.cells #[.int .i64 0, .int .u8 0, .int .u32 0, .int .i64 0, .int .u32 0, .int .i64 0, .int .u32 0, .int .u16 0, .int .u16 0, .int .u32 0, .int .u16 0] 30)) d0
  have d1 := Cells.new (w.alloc (.cells #[.int .u8 a0, .int .u8 a1, .int .u8 a2, .int .u8 a3, .int .u8 a4, .int .u8 a5] 45)) #[.int .i64 0, .int .u8 0, .int .u32 0, .int .i64 0, .int .u32 0, .int .i64 0, .int .u32 0, .int .u16 0, .int .u16 0, .int .u32 0, .int .u16 0] 30
  have l0 : Below w.heap.size w ((w.alloc (.cells #[.int .u8 a0, .int .u8 a1, .int .u8 a2, .int .u8 a3, .int .u8 a4, .int .u8 a5] 45)).alloc (.cells #[.int .i64 0, .int .u8 0, .int .u32 0, .int .i64 0, .int .u32 0, .int .i64 0, .int .u32 0, .int .u16 0, .int .u16 0, .int .u32 0, .int .u16 0] 30)) := (bstep (fresh_below _ _) (fresh_below _ _))
  simp only [World.size_alloc] at d1
  have L0 := hide l0; have D0 := hide d0; have D1 := hide d1
  clear l0 d0 d1
  go_upto_region 1 with fail
  have l0 := L0.out; have d0 := D0.out; have d1 := D1.out
  clear L0 D0 D1
  generalize ((w.alloc (.cells #[.int .u8 a0, .int .u8 a1, .int .u8 a2, .int .u8 a3, .int .u8 a4, .int .u8 a5] 45)).alloc (.cells #[.int .i64 0, .int .u8 0, .int .u32 0, .int .i64 0, .int .u32 0, .int .i64 0, .int .u32 0, .int .u16 0, .int .u16 0, .int .u32 0, .int .u16 0] 30)) = w1 at *
  have qd0_0 : ∀ W', Below w1.heap.size w1 W' → World.cell? W' ⟨w.heap.size, 0, none⟩ = some (.int .u8 a0) := fun W' h => Cells.at_ (Cells.below h d0) 0
  have qd0_1 : ∀ W', Below w1.heap.size w1 W' → World.cell? W' ⟨w.heap.size, 1, none⟩ = some (.int .u8 a1) := fun W' h => Cells.at_ (Cells.below h d0) 1
  have qd0_2 : ∀ W', Below w1.heap.size w1 W' → World.cell? W' ⟨w.heap.size, 2, none⟩ = some (.int .u8 a2) := fun W' h => Cells.at_ (Cells.below h d0) 2
  have qd0_3 : ∀ W', Below w1.heap.size w1 W' → World.cell? W' ⟨w.heap.size, 3, none⟩ = some (.int .u8 a3) := fun W' h => Cells.at_ (Cells.below h d0) 3
  have qd0_4 : ∀ W', Below w1.heap.size w1 W' → World.cell? W' ⟨w.heap.size, 4, none⟩ = some (.int .u8 a4) := fun W' h => Cells.at_ (Cells.below h d0) 4
  have qd0_5 : ∀ W', Below w1.heap.size w1 W' → World.cell? W' ⟨w.heap.size, 5, none⟩ = some (.int .u8 a5) := fun W' h => Cells.at_ (Cells.below h d0) 5
  have qd1_0 : ∀ W', Below w1.heap.size w1 W' → World.cell? W' ⟨w.heap.size + 1, 0, none⟩ = some (.int .i64 0) := fun W' h => Cells.at_ (Cells.below h d1) 0
  have qd1_1 : ∀ W', Below w1.heap.size w1 W' → World.cell? W' ⟨w.heap.size + 1, 1, none⟩ = some (.int .u8 0) := fun W' h => Cells.at_ (Cells.below h d1) 1
  have qd1_2 : ∀ W', Below w1.heap.size w1 W' → World.cell? W' ⟨w.heap.size + 1, 2, none⟩ = some (.int .u32 0) := fun W' h => Cells.at_ (Cells.below h d1) 2
  have qd1_3 : ∀ W', Below w1.heap.size w1 W' → World.cell? W' ⟨w.heap.size + 1, 3, none⟩ = some (.int .i64 0) := fun W' h => Cells.at_ (Cells.below h d1) 3
  have qd1_4 : ∀ W', Below w1.heap.size w1 W' → World.cell? W' ⟨w.heap.size + 1, 4, none⟩ = some (.int .u32 0) := fun W' h => Cells.at_ (Cells.below h d1) 4
  have qd1_5 : ∀ W', Below w1.heap.size w1 W' → World.cell? W' ⟨w.heap.size + 1, 5, none⟩ = some (.int .i64 0) := fun W' h => Cells.at_ (Cells.below h d1) 5
  have qd1_6 : ∀ W', Below w1.heap.size w1 W' → World.cell? W' ⟨w.heap.size + 1, 6, none⟩ = some (.int .u32 0) := fun W' h => Cells.at_ (Cells.below h d1) 6
  have qd1_7 : ∀ W', Below w1.heap.size w1 W' → World.cell? W' ⟨w.heap.size + 1, 7, none⟩ = some (.int .u16 0) := fun W' h => Cells.at_ (Cells.below h d1) 7
  have qd1_8 : ∀ W', Below w1.heap.size w1 W' → World.cell? W' ⟨w.heap.size + 1, 8, none⟩ = some (.int .u16 0) := fun W' h => Cells.at_ (Cells.below h d1) 8
  have qd1_9 : ∀ W', Below w1.heap.size w1 W' → World.cell? W' ⟨w.heap.size + 1, 9, none⟩ = some (.int .u32 0) := fun W' h => Cells.at_ (Cells.below h d1) 9
  have qd1_10 : ∀ W', Below w1.heap.size w1 W' → World.cell? W' ⟨w.heap.size + 1, 10, none⟩ = some (.int .u16 0) := fun W' h => Cells.at_ (Cells.below h d1) 10
  have bb : Below w1.heap.size w1 w1 := Below.refl _ _
  have L0 := hide l0; have D0 := hide d0; have D1 := hide d1
  clear l0 d0 d1
  go_upto_region 3 with fail
  have fz : ∀ W' i, Below w1.heap.size w1 W' → World.frozen? W' ⟨w.heap.size + 1, i, none⟩ = false := fun W' i h => Cells.free (Cells.below h D1.out) i
  focus
    refine wp_region_J [28] (fun W => Below w1.heap.size w1 W) (by kernel_rfl) (bb.drew) (fun hS0 => ?_)
    refine wpAnyJ_take (i := 0) (v := ?v0_1) rfl (by kernel_rfl) (by kernel_rfl) (by kernel_rfl) (by kernel_rfl) (fun _ _ _ h => h) (Or.inl (And.intro (by kernel_rfl) ?q0_1)) hS0 ?r0_1; (case q0_1 => (intro w hx; (try dsimp only); (try go_simp); (try with_reducible rfl)))
    (try simp only [Act.put, List.setIfInBounds_toArray, List.set_cons_zero, List.set_cons_succ, List.getElem_toArray, List.getElem_cons_succ, List.getElem_cons_zero])
    refine wpAnyJ_take (i := 1) (v := ?v1_2) rfl (by kernel_rfl) (by kernel_rfl) (by kernel_rfl) (by kernel_rfl) (fun _ _ _ h => h) (Or.inl (And.intro (by kernel_rfl) ?q1_2)) hS0 ?r1_2; (case q1_2 => (intro w hx; (try dsimp only); (try go_simp); (try with_reducible rfl)))
    (try simp only [Act.put, List.setIfInBounds_toArray, List.set_cons_zero, List.set_cons_succ, List.getElem_toArray, List.getElem_cons_succ, List.getElem_cons_zero])
    refine wpAnyJ_take (i := 2) (v := ?v2_3) rfl (by kernel_rfl) (by kernel_rfl) (by kernel_rfl) (by kernel_rfl) (fun _ _ _ h => h) (Or.inl (And.intro (by kernel_rfl) ?q2_3)) hS0 ?r2_3; (case q2_3 => (intro w hx; (try dsimp only); (try go_simp); (try with_reducible rfl)))
    (try simp only [Act.put, List.setIfInBounds_toArray, List.set_cons_zero, List.set_cons_succ, List.getElem_toArray, List.getElem_cons_succ, List.getElem_cons_zero])
    refine wpAnyJ_take (i := 3) (v := ?v3_4) rfl (by kernel_rfl) (by kernel_rfl) (by kernel_rfl) (by kernel_rfl) (fun _ _ _ h => h) (Or.inl (And.intro (by kernel_rfl) ?q3_4)) hS0 ?r3_4; (case q3_4 => (intro w hx; (try dsimp only); (try go_simp); (try with_reducible rfl)))
    (try simp only [Act.put, List.setIfInBounds_toArray, List.set_cons_zero, List.set_cons_succ, List.getElem_toArray, List.getElem_cons_succ, List.getElem_cons_zero])
    refine wpAnyJ_take (i := 4) (v := ?v4_5) rfl (by kernel_rfl) (by kernel_rfl) (by kernel_rfl) (by kernel_rfl) (fun _ _ _ h => h) (Or.inl (And.intro (by kernel_rfl) ?q4_5)) hS0 ?r4_5; (case q4_5 => (intro w hx; (try dsimp only); (try go_simp); (try with_reducible rfl)))
    (try simp only [Act.put, List.setIfInBounds_toArray, List.set_cons_zero, List.set_cons_succ, List.getElem_toArray, List.getElem_cons_succ, List.getElem_cons_zero])
    refine wpAnyJ_take (i := 5) (v := ?v5_6) rfl (by kernel_rfl) (by kernel_rfl) (by kernel_rfl) (by kernel_rfl) (fun _ _ _ h => h) (Or.inl (And.intro (by kernel_rfl) ?q5_6)) hS0 ?r5_6; (case q5_6 => (intro w hx; (try dsimp only); (try go_simp); (try with_reducible rfl)))
    (try simp only [Act.put, List.setIfInBounds_toArray, List.set_cons_zero, List.set_cons_succ, List.getElem_toArray, List.getElem_cons_succ, List.getElem_cons_zero])
    refine wpAnyJ_take (i := 6) (v := ?v6_7) rfl (by kernel_rfl) (by kernel_rfl) (by kernel_rfl) (by kernel_rfl) (fun _ _ _ h => h) (Or.inl (And.intro (by kernel_rfl) ?q6_7)) hS0 ?r6_7; (case q6_7 => (intro w hx; (try dsimp only); (try go_simp); (try with_reducible rfl)))
    (try simp only [Act.put, List.setIfInBounds_toArray, List.set_cons_zero, List.set_cons_succ, List.getElem_toArray, List.getElem_cons_succ, List.getElem_cons_zero])
    refine wpAnyJ_take (i := 7) (v := ?v7_8) rfl (by kernel_rfl) (by kernel_rfl) (by kernel_rfl) (by kernel_rfl) (fun _ _ _ h => h) (Or.inl (And.intro (by kernel_rfl) ?q7_8)) hS0 ?r7_8; (case q7_8 => (intro w hx; (try dsimp only); (try go_simp); (try with_reducible rfl)))
    (try simp only [Act.put, List.setIfInBounds_toArray, List.set_cons_zero, List.set_cons_succ, List.getElem_toArray, List.getElem_cons_succ, List.getElem_cons_zero])
    refine wpAnyJ_take (i := 8) (v := ?v8_9) rfl (by kernel_rfl) (by kernel_rfl) (by kernel_rfl) (by kernel_rfl) (fun _ _ _ h => h) (Or.inl (And.intro (by kernel_rfl) ?q8_9)) hS0 ?r8_9; (case q8_9 => (intro w hx; (try dsimp only); (try go_simp); (try with_reducible rfl)))
    (try simp only [Act.put, List.setIfInBounds_toArray, List.set_cons_zero, List.set_cons_succ, List.getElem_toArray, List.getElem_cons_succ, List.getElem_cons_zero])
    refine wpAnyJ_take (i := 9) (v := ?v9_10) rfl (by kernel_rfl) (by kernel_rfl) (by kernel_rfl) (by kernel_rfl) (fun _ _ _ h => h) (Or.inl (And.intro (by kernel_rfl) ?q9_10)) hS0 ?r9_10; (case q9_10 => (intro w hx; (try dsimp only); (try go_simp); (try with_reducible rfl)))
    (try simp only [Act.put, List.setIfInBounds_toArray, List.set_cons_zero, List.set_cons_succ, List.getElem_toArray, List.getElem_cons_succ, List.getElem_cons_zero])
    refine wpAnyJ_take (i := 10) (v := ?v10_11) rfl (by kernel_rfl) (by kernel_rfl) (by kernel_rfl) (by kernel_rfl) (fun _ _ _ h => h) (Or.inl (And.intro (by kernel_rfl) ?q10_11)) hS0 ?r10_11; (case q10_11 => (intro w hx; (try dsimp only); (try go_simp); (try with_reducible rfl)))
    (try simp only [Act.put, List.setIfInBounds_toArray, List.set_cons_zero, List.set_cons_succ, List.getElem_toArray, List.getElem_cons_succ, List.getElem_cons_zero])
    refine wpAnyJ_take (i := 11) (v := ?v11_12) rfl (by kernel_rfl) (by kernel_rfl) (by kernel_rfl) (by kernel_rfl) (fun _ _ _ h => h) (Or.inl (And.intro (by kernel_rfl) ?q11_12)) hS0 ?r11_12; (case q11_12 => (intro w hx; (try dsimp only); (try go_simp); (try with_reducible rfl)))
    (try simp only [Act.put, List.setIfInBounds_toArray, List.set_cons_zero, List.set_cons_succ, List.getElem_toArray, List.getElem_cons_succ, List.getElem_cons_zero])
    refine wpAnyJ_take (i := 12) (v := ?v12_13) rfl (by kernel_rfl) (by kernel_rfl) (by kernel_rfl) (by kernel_rfl) (fun _ _ _ h => h) (Or.inl (And.intro (by kernel_rfl) ?q12_13)) hS0 ?r12_13; (case q12_13 => (intro w hx; (try dsimp only); (try go_simp); (try with_reducible rfl)))
    (try simp only [Act.put, List.setIfInBounds_toArray, List.set_cons_zero, List.set_cons_succ, List.getElem_toArray, List.getElem_cons_succ, List.getElem_cons_zero])
    refine wpAnyJ_take (i := 13) (v := ?v13_14) rfl (by kernel_rfl) (by kernel_rfl) (by kernel_rfl) (by kernel_rfl) (fun _ _ _ h => h) (Or.inl (And.intro (by kernel_rfl) ?q13_14)) hS0 ?r13_14; (case q13_14 => (intro w hx; (try dsimp only); (try go_simp); (try with_reducible rfl)))
    (try simp only [Act.put, List.setIfInBounds_toArray, List.set_cons_zero, List.set_cons_succ, List.getElem_toArray, List.getElem_cons_succ, List.getElem_cons_zero])
    refine wpAnyJ_take (i := 14) (v := ?v14_15) rfl (by kernel_rfl) (by kernel_rfl) (by kernel_rfl) (by kernel_rfl) (fun _ _ _ h => h) (Or.inl (And.intro (by kernel_rfl) ?q14_15)) hS0 ?r14_15; (case q14_15 => (intro w hx; (try dsimp only); (try go_simp); (try with_reducible rfl)))
    (try simp only [Act.put, List.setIfInBounds_toArray, List.set_cons_zero, List.set_cons_succ, List.getElem_toArray, List.getElem_cons_succ, List.getElem_cons_zero])
    refine wpAnyJ_take (i := 15) (v := ?v15_16) rfl (by kernel_rfl) (by kernel_rfl) (by kernel_rfl) (by kernel_rfl) (fun _ _ _ h => h) (Or.inl (And.intro (by kernel_rfl) ?q15_16)) hS0 ?r15_16; (case q15_16 => (intro w hx; (try dsimp only); (try go_simp); (try with_reducible rfl)))
    (try simp only [Act.put, List.setIfInBounds_toArray, List.set_cons_zero, List.set_cons_succ, List.getElem_toArray, List.getElem_cons_succ, List.getElem_cons_zero])
    refine wpAnyJ_take (i := 16) (v := ?v16_17) rfl (by kernel_rfl) (by kernel_rfl) (by kernel_rfl) (by kernel_rfl) (fun _ _ _ h => h) (Or.inl (And.intro (by kernel_rfl) ?q16_17)) hS0 ?r16_17; (case q16_17 => (intro w hx; (try dsimp only); (try go_simp); (try with_reducible rfl)))
    (try simp only [Act.put, List.setIfInBounds_toArray, List.set_cons_zero, List.set_cons_succ, List.getElem_toArray, List.getElem_cons_succ, List.getElem_cons_zero])
    refine wpAnyJ_take (i := 17) (v := ?v17_18) rfl (by kernel_rfl) (by kernel_rfl) (by kernel_rfl) (by kernel_rfl) (fun _ _ _ h => h) (Or.inl (And.intro (by kernel_rfl) ?q17_18)) hS0 ?r17_18; (case q17_18 => (intro w hx; (try dsimp only); (try go_simp); (try with_reducible rfl)))
    (try simp only [Act.put, List.setIfInBounds_toArray, List.set_cons_zero, List.set_cons_succ, List.getElem_toArray, List.getElem_cons_succ, List.getElem_cons_zero])
    refine wpAnyJ_take (i := 18) (v := ?v18_19) rfl (by kernel_rfl) (by kernel_rfl) (by kernel_rfl) (by kernel_rfl) (fun _ _ _ h => h) (Or.inl (And.intro (by kernel_rfl) ?q18_19)) hS0 ?r18_19; (case q18_19 => (intro w hx; (try dsimp only); (try go_simp); (try with_reducible rfl)))
    (try simp only [Act.put, List.setIfInBounds_toArray, List.set_cons_zero, List.set_cons_succ, List.getElem_toArray, List.getElem_cons_succ, List.getElem_cons_zero])
    refine wpAnyJ_take (i := 19) (v := ?v19_20) rfl (by kernel_rfl) (by kernel_rfl) (by kernel_rfl) (by kernel_rfl) (fun _ _ _ h => h) (Or.inl (And.intro (by kernel_rfl) ?q19_20)) hS0 ?r19_20; (case q19_20 => (intro w hx; (try dsimp only); (try go_simp); (try with_reducible rfl)))
    (try simp only [Act.put, List.setIfInBounds_toArray, List.set_cons_zero, List.set_cons_succ, List.getElem_toArray, List.getElem_cons_succ, List.getElem_cons_zero])
    refine wpAnyJ_take (i := 20) (v := ?v20_21) rfl (by kernel_rfl) (by kernel_rfl) (by kernel_rfl) (by kernel_rfl) (fun _ _ _ h => h) (Or.inl (And.intro (by kernel_rfl) ?q20_21)) hS0 ?r20_21; (case q20_21 => (intro w hx; (try dsimp only); (try go_simp); (try with_reducible rfl)))
    (try simp only [Act.put, List.setIfInBounds_toArray, List.set_cons_zero, List.set_cons_succ, List.getElem_toArray, List.getElem_cons_succ, List.getElem_cons_zero])
    refine wpAnyJ_take (i := 21) (v := ?v21_22) rfl (by kernel_rfl) (by kernel_rfl) (by kernel_rfl) (by kernel_rfl) (fun _ _ _ h => h) (Or.inl (And.intro (by kernel_rfl) ?q21_22)) hS0 ?r21_22; (case q21_22 => (intro w hx; (try dsimp only); (try go_simp); (try with_reducible rfl)))
    (try simp only [Act.put, List.setIfInBounds_toArray, List.set_cons_zero, List.set_cons_succ, List.getElem_toArray, List.getElem_cons_succ, List.getElem_cons_zero])
    refine wpAnyJ_take (i := 22) (v := ?v22_23) rfl (by kernel_rfl) (by kernel_rfl) (by kernel_rfl) (by kernel_rfl) (fun _ _ _ h => h) (Or.inl (And.intro (by kernel_rfl) ?q22_23)) hS0 ?r22_23; (case q22_23 => (intro w hx; (try dsimp only); (try go_simp); (try with_reducible rfl)))
    (try simp only [Act.put, List.setIfInBounds_toArray, List.set_cons_zero, List.set_cons_succ, List.getElem_toArray, List.getElem_cons_succ, List.getElem_cons_zero])
    refine wpAnyJ_take (i := 23) (v := ?v23_24) rfl (by kernel_rfl) (by kernel_rfl) (by kernel_rfl) (by kernel_rfl) (fun _ _ _ h => h) (Or.inl (And.intro (by kernel_rfl) ?q23_24)) hS0 ?r23_24; (case q23_24 => (intro w hx; (try dsimp only); (try go_simp); (try with_reducible rfl)))
    (try simp only [Act.put, List.setIfInBounds_toArray, List.set_cons_zero, List.set_cons_succ, List.getElem_toArray, List.getElem_cons_succ, List.getElem_cons_zero])
    refine wpAnyJ_take (i := 24) (v := ?v24_25) rfl (by kernel_rfl) (by kernel_rfl) (by kernel_rfl) (by kernel_rfl) (fun _ _ _ h => h) (Or.inl (And.intro (by kernel_rfl) ?q24_25)) hS0 ?r24_25; (case q24_25 => (intro w hx; (try dsimp only); (try go_simp); (try with_reducible rfl)))
    (try simp only [Act.put, List.setIfInBounds_toArray, List.set_cons_zero, List.set_cons_succ, List.getElem_toArray, List.getElem_cons_succ, List.getElem_cons_zero])
    refine wpAnyJ_take (i := 25) (v := ?v25_26) rfl (by kernel_rfl) (by kernel_rfl) (by kernel_rfl) (by kernel_rfl) (fun _ _ _ h => h) (Or.inl (And.intro (by kernel_rfl) ?q25_26)) hS0 ?r25_26; (case q25_26 => (intro w hx; (try dsimp only); (try go_simp); (try with_reducible rfl)))
    (try simp only [Act.put, List.setIfInBounds_toArray, List.set_cons_zero, List.set_cons_succ, List.getElem_toArray, List.getElem_cons_succ, List.getElem_cons_zero])
    refine wpAnyJ_take (i := 26) (v := ?v26_27) rfl (by kernel_rfl) (by kernel_rfl) (by kernel_rfl) (by kernel_rfl) (fun _ _ _ h => h) (Or.inl (And.intro (by kernel_rfl) ?q26_27)) hS0 ?r26_27; (case q26_27 => (intro w hx; (try dsimp only); (try go_simp); (try with_reducible rfl)))
    (try simp only [Act.put, List.setIfInBounds_toArray, List.set_cons_zero, List.set_cons_succ, List.getElem_toArray, List.getElem_cons_succ, List.getElem_cons_zero])
    refine wpAnyJ_take (i := 27) (v := ?v27_28) rfl (by kernel_rfl) (by kernel_rfl) (by kernel_rfl) (by kernel_rfl) (fun _ _ _ h => h) (Or.inl (And.intro (by kernel_rfl) ?q27_28)) hS0 ?r27_28; (case q27_28 => (intro w hx; (try dsimp only); (try go_simp); (try with_reducible rfl)))
    (try simp only [Act.put, List.setIfInBounds_toArray, List.set_cons_zero, List.set_cons_succ, List.getElem_toArray, List.getElem_cons_succ, List.getElem_cons_zero])
    refine wpAnyJ_ready (rs := [28]) (by kernel_rfl) (by simp) ?_
    refine (AllReadyJ.last rfl (by kernel_rfl) (fun K hK => ?_) AllReadyJ.nil)
    rw [if_pos (by kernel_rfl)]
    (try simp only [List.getElem_toArray, List.getElem_cons_succ, List.getElem_cons_zero])
    (focus go_simp)
    refine hK.out _ _ ?_
    clear hK K
    (try simp only [Act.put, List.setIfInBounds_toArray, List.set_cons_zero, List.set_cons_succ, List.getElem_toArray, List.getElem_cons_succ, List.getElem_cons_zero])
    refine wpAnyJ_done (by kernel_rfl) ?_ _
  have d5 := D1.out; have l5 := L0.out
  clear qd0_0 qd0_1 qd0_2 qd0_3 qd0_4 qd0_5 qd1_0 qd1_1 qd1_2 qd1_3 qd1_4 qd1_5 qd1_6 qd1_7 qd1_8 qd1_9 qd1_10 fz bb hS0 D0 D1 L0
  have r5 := (Cells.put11 d5 (.int .i64 3) (.int .u8 (pr2 m1)) (.int .u32 0) (.int .i64 0) (.int .u32 0) (.int .i64 0) (.int .u32 (151587081 + m2)) (.int .u16 (1 + m3)) (.int .u16 (1 + m3)) (.int .u32 (167772160 + m4)) (.int .u16 (1 + m5))).drew
  have b5 := (Below.put11 l5 (b := w.heap.size + 1) (by first | exact Nat.le_refl _ | omega) (.int .i64 3) (.int .u8 (pr2 m1)) (.int .u32 0) (.int .i64 0) (.int .u32 0) (.int .i64 0) (.int .u32 (151587081 + m2)) (.int .u16 (1 + m3)) (.int .u16 (1 + m3)) (.int .u32 (167772160 + m4)) (.int .u16 (1 + m5))).drew
  have HR5 := hide r5; have HB5 := hide b5
  clear r5 b5 d5
  generalize (((((((((((w1.setCell ⟨w.heap.size + 1, 0, none⟩ (.int .i64 3)).setCell ⟨w.heap.size + 1, 1, none⟩ (.int .u8 (pr2 m1))).setCell ⟨w.heap.size + 1, 2, none⟩ (.int .u32 0)).setCell ⟨w.heap.size + 1, 3, none⟩ (.int .i64 0)).setCell ⟨w.heap.size + 1, 4, none⟩ (.int .u32 0)).setCell ⟨w.heap.size + 1, 5, none⟩ (.int .i64 0)).setCell ⟨w.heap.size + 1, 6, none⟩ (.int .u32 (151587081 + m2))).setCell ⟨w.heap.size + 1, 7, none⟩ (.int .u16 (1 + m3))).setCell ⟨w.heap.size + 1, 8, none⟩ (.int .u16 (1 + m3))).setCell ⟨w.heap.size + 1, 9, none⟩ (.int .u32 (167772160 + m4))).setCell ⟨w.heap.size + 1, 10, none⟩ (.int .u16 (1 + m5))).drew = W5 at *
  have r5 := HR5.out; have b5 := HB5.out
  clear HR5 HB5
  have xr5_0 : W5.cell? ⟨w.heap.size + 1, 0, none⟩ = some (.int .i64 3) := r5.at_ 0
  have xr5_1 : W5.cell? ⟨w.heap.size + 1, 1, none⟩ = some (.int .u8 (pr2 m1)) := r5.at_ 1
  have xr5_2 : W5.cell? ⟨w.heap.size + 1, 2, none⟩ = some (.int .u32 0) := r5.at_ 2
  have xr5_3 : W5.cell? ⟨w.heap.size + 1, 3, none⟩ = some (.int .i64 0) := r5.at_ 3
  have xr5_4 : W5.cell? ⟨w.heap.size + 1, 4, none⟩ = some (.int .u32 0) := r5.at_ 4
  have xr5_5 : W5.cell? ⟨w.heap.size + 1, 5, none⟩ = some (.int .i64 0) := r5.at_ 5
  have xr5_6 : W5.cell? ⟨w.heap.size + 1, 6, none⟩ = some (.int .u32 (151587081 + m2)) := r5.at_ 6
  have xr5_7 : W5.cell? ⟨w.heap.size + 1, 7, none⟩ = some (.int .u16 (1 + m3)) := r5.at_ 7
  have xr5_8 : W5.cell? ⟨w.heap.size + 1, 8, none⟩ = some (.int .u16 (1 + m3)) := r5.at_ 8
  have xr5_9 : W5.cell? ⟨w.heap.size + 1, 9, none⟩ = some (.int .u32 (167772160 + m4)) := r5.at_ 9
  have xr5_10 : W5.cell? ⟨w.heap.size + 1, 10, none⟩ = some (.int .u16 (1 + m5)) := r5.at_ 10
  go_wp2_with fail
  (try simp only [Exit.inBlock, Exit.then]); refine bodyPost_ret (by simp [results, Try.results27, go_sem, *]; try rfl) rfl ?_
  rw [HR.out]
  exact ⟨rfl, b5⟩
set_option maxHeartbeats 8000000 in
set_option maxRecDepth 100000 in
theorem l_Rule_1 (w : World) (a0 a1 a2 a3 a4 a5 : Int) (h0 : 0 ≤ a0 ∧ a0 ≤ 255) (h1 : 0 ≤ a1 ∧ a1 ≤ 255) (h2 : 0 ≤ a2 ∧ a2 ≤ 255) (h3 : 0 ≤ a3 ∧ a3 ≤ 255) (h4 : 0 ≤ a4 ∧ a4 ≤ 255) (h5 : 0 ≤ a5 ∧ a5 ≤ 255) (hz : ¬ a0 % 3 = 0) :
    Calls Try.prog 27 #[.agg #[.int .u8 a0, .int .u8 a1, .int .u8 a2, .int .u8 a3, .int .u8 a4, .int .u8 a5]] w (Ret (.agg (dRule a0 a1 a2 a3 a4 a5).cells) w) := by
  obtain ⟨R, hR⟩ : ∃ R, R = dRule a0 a1 a2 a3 a4 a5 := ⟨_, rfl⟩
  rw [← hR]
  unfold dRule at hR
  rw [if_neg hz] at hR
  have i1 := ix_4 (a1 % 4) (by omega) (by omega)
  have i2 := ix_p (a4 % 4) (by omega) (by omega)
  have i3 := ix_q (a5 % 3) (by omega) (by omega)
  have t1 : a1.tmod 4 = a1 % 4 := by rw [Int.tmod_eq_emod_of_nonneg h1.1]
  have t2 : a2.tmod 3 = a2 % 3 := by rw [Int.tmod_eq_emod_of_nonneg h2.1]
  have t3 : a3.tmod 8 = a3 % 8 := by rw [Int.tmod_eq_emod_of_nonneg h3.1]
  have t4 : a4.tmod 4 = a4 % 4 := by rw [Int.tmod_eq_emod_of_nonneg h4.1]
  have t5 : a5.tmod 3 = a5 % 3 := by rw [Int.tmod_eq_emod_of_nonneg h5.1]
  have t0 : a0.tmod 3 = a0 % 3 := by rw [Int.tmod_eq_emod_of_nonneg h0.1]
  have b1 : 0 ≤ a1 % 4 ∧ a1 % 4 < 4 := by omega
  have b2 : 0 ≤ a2 % 3 ∧ a2 % 3 < 3 := by omega
  have b3 : 0 ≤ a3 % 8 ∧ a3 % 8 < 8 := by omega
  have b4 : 0 ≤ a4 % 4 ∧ a4 % 4 < 4 := by omega
  have b5 : 0 ≤ a5 % 3 ∧ a5 % 3 < 3 := by omega
  have b6 : 0 ≤ a3 / 8 ∧ 0 ≤ a3 / 8 % 4 ∧ a3 / 8 % 4 < 4 := by omega
  have t6 : a3.tdiv 8 = a3 / 8 := Int.tdiv_eq_ediv_of_nonneg h3.1
  have t7 : (a3 / 8).tmod 4 = a3 / 8 % 4 := by rw [Int.tmod_eq_emod_of_nonneg b6.1]
  generalize a3 / 8 = m7 at *
  generalize a1 % 4 = m1 at *; generalize a2 % 3 = m2 at *; generalize a3 % 8 = m3 at *; generalize a4 % 4 = m4 at *; generalize a5 % 3 = m5 at *
  have hm0 : 0 ≤ a0 % 3 ∧ a0 % 3 < 3 := by omega
  generalize a0 % 3 = m0 at *
  obtain ⟨b1l, b1u⟩ := b1; obtain ⟨b2l, b2u⟩ := b2; obtain ⟨b3l, b3u⟩ := b3; obtain ⟨b4l, b4u⟩ := b4; obtain ⟨b5l, b5u⟩ := b5
  obtain ⟨b6l, b7l, b7u⟩ := b6
  obtain ⟨h0l, h0u⟩ := h0
  obtain ⟨h3l, h3u⟩ := h3
  have HR := hide hR
  clear hR h1 h2 h4 h5
  have u1 : IntKind.u16.wrap m3 = m3 := IntWalk.u16_in _ (by omega)
  have u2 : IntKind.u16.wrap (4 + m3) = 4 + m3 := IntWalk.u16_in _ (by omega)
  have C0 := hide (fun W => l_tens W)
  have g0 : (m0 == 0) = false := by simp [hz]
  go_enter Try.func27, Try.ntmps27
  have d0 := Cells.new w #[.int .u8 a0, .int .u8 a1, .int .u8 a2, .int .u8 a3, .int .u8 a4, .int .u8 a5] 45
  replace d0 := Cells.below (fresh_below (w.alloc (.cells #[.int .u8 a0, .int .u8 a1, .int .u8 a2, .int .u8 a3, .int .u8 a4, .int .u8 a5] 45)) (.cells #[.int .i64 0, .int .u8 0, .int .u32 0, .int .i64 0, .int .u32 0, .int .i64 0, .int .u32 0, .int .u16 0, .int .u16 0, .int .u32 0, .int .u16 0] 30)) d0
  have d1 := Cells.new (w.alloc (.cells #[.int .u8 a0, .int .u8 a1, .int .u8 a2, .int .u8 a3, .int .u8 a4, .int .u8 a5] 45)) #[.int .i64 0, .int .u8 0, .int .u32 0, .int .i64 0, .int .u32 0, .int .i64 0, .int .u32 0, .int .u16 0, .int .u16 0, .int .u32 0, .int .u16 0] 30
  have l0 : Below w.heap.size w ((w.alloc (.cells #[.int .u8 a0, .int .u8 a1, .int .u8 a2, .int .u8 a3, .int .u8 a4, .int .u8 a5] 45)).alloc (.cells #[.int .i64 0, .int .u8 0, .int .u32 0, .int .i64 0, .int .u32 0, .int .i64 0, .int .u32 0, .int .u16 0, .int .u16 0, .int .u32 0, .int .u16 0] 30)) := (bstep (fresh_below _ _) (fresh_below _ _))
  simp only [World.size_alloc] at d1
  have L0 := hide l0; have D0 := hide d0; have D1 := hide d1
  clear l0 d0 d1
  go_upto_region 1 with fail
  have l0 := L0.out; have d0 := D0.out; have d1 := D1.out
  clear L0 D0 D1
  generalize ((w.alloc (.cells #[.int .u8 a0, .int .u8 a1, .int .u8 a2, .int .u8 a3, .int .u8 a4, .int .u8 a5] 45)).alloc (.cells #[.int .i64 0, .int .u8 0, .int .u32 0, .int .i64 0, .int .u32 0, .int .i64 0, .int .u32 0, .int .u16 0, .int .u16 0, .int .u32 0, .int .u16 0] 30)) = w1 at *
  have qd0_0 : ∀ W', Below w1.heap.size w1 W' → World.cell? W' ⟨w.heap.size, 0, none⟩ = some (.int .u8 a0) := fun W' h => Cells.at_ (Cells.below h d0) 0
  have qd0_1 : ∀ W', Below w1.heap.size w1 W' → World.cell? W' ⟨w.heap.size, 1, none⟩ = some (.int .u8 a1) := fun W' h => Cells.at_ (Cells.below h d0) 1
  have qd0_2 : ∀ W', Below w1.heap.size w1 W' → World.cell? W' ⟨w.heap.size, 2, none⟩ = some (.int .u8 a2) := fun W' h => Cells.at_ (Cells.below h d0) 2
  have qd0_3 : ∀ W', Below w1.heap.size w1 W' → World.cell? W' ⟨w.heap.size, 3, none⟩ = some (.int .u8 a3) := fun W' h => Cells.at_ (Cells.below h d0) 3
  have qd0_4 : ∀ W', Below w1.heap.size w1 W' → World.cell? W' ⟨w.heap.size, 4, none⟩ = some (.int .u8 a4) := fun W' h => Cells.at_ (Cells.below h d0) 4
  have qd0_5 : ∀ W', Below w1.heap.size w1 W' → World.cell? W' ⟨w.heap.size, 5, none⟩ = some (.int .u8 a5) := fun W' h => Cells.at_ (Cells.below h d0) 5
  have qd1_0 : ∀ W', Below w1.heap.size w1 W' → World.cell? W' ⟨w.heap.size + 1, 0, none⟩ = some (.int .i64 0) := fun W' h => Cells.at_ (Cells.below h d1) 0
  have qd1_1 : ∀ W', Below w1.heap.size w1 W' → World.cell? W' ⟨w.heap.size + 1, 1, none⟩ = some (.int .u8 0) := fun W' h => Cells.at_ (Cells.below h d1) 1
  have qd1_2 : ∀ W', Below w1.heap.size w1 W' → World.cell? W' ⟨w.heap.size + 1, 2, none⟩ = some (.int .u32 0) := fun W' h => Cells.at_ (Cells.below h d1) 2
  have qd1_3 : ∀ W', Below w1.heap.size w1 W' → World.cell? W' ⟨w.heap.size + 1, 3, none⟩ = some (.int .i64 0) := fun W' h => Cells.at_ (Cells.below h d1) 3
  have qd1_4 : ∀ W', Below w1.heap.size w1 W' → World.cell? W' ⟨w.heap.size + 1, 4, none⟩ = some (.int .u32 0) := fun W' h => Cells.at_ (Cells.below h d1) 4
  have qd1_5 : ∀ W', Below w1.heap.size w1 W' → World.cell? W' ⟨w.heap.size + 1, 5, none⟩ = some (.int .i64 0) := fun W' h => Cells.at_ (Cells.below h d1) 5
  have qd1_6 : ∀ W', Below w1.heap.size w1 W' → World.cell? W' ⟨w.heap.size + 1, 6, none⟩ = some (.int .u32 0) := fun W' h => Cells.at_ (Cells.below h d1) 6
  have qd1_7 : ∀ W', Below w1.heap.size w1 W' → World.cell? W' ⟨w.heap.size + 1, 7, none⟩ = some (.int .u16 0) := fun W' h => Cells.at_ (Cells.below h d1) 7
  have qd1_8 : ∀ W', Below w1.heap.size w1 W' → World.cell? W' ⟨w.heap.size + 1, 8, none⟩ = some (.int .u16 0) := fun W' h => Cells.at_ (Cells.below h d1) 8
  have qd1_9 : ∀ W', Below w1.heap.size w1 W' → World.cell? W' ⟨w.heap.size + 1, 9, none⟩ = some (.int .u32 0) := fun W' h => Cells.at_ (Cells.below h d1) 9
  have qd1_10 : ∀ W', Below w1.heap.size w1 W' → World.cell? W' ⟨w.heap.size + 1, 10, none⟩ = some (.int .u16 0) := fun W' h => Cells.at_ (Cells.below h d1) 10
  have bb : Below w1.heap.size w1 w1 := Below.refl _ _
  have L0 := hide l0; have D0 := hide d0; have D1 := hide d1
  clear l0 d0 d1
  go_upto_region 4 with fail
  have fz : ∀ W' , Below w1.heap.size w1 W' → World.frozen? (W'.alloc (.cells #[.int .i64 0, .int .u8 0, .int .u32 0, .int .i64 0, .int .u32 0, .int .i64 0, .int .u32 0, .int .u16 0, .int .u16 0, .int .u32 0, .int .u16 0] 30)) ⟨W'.heap.size, 0, none⟩ = false := fun W' h => Cells.free (Cells.new _ _ _) 0
  focus
    refine wp_region_J [13] (fun W => Below w1.heap.size w1 W) (by kernel_rfl) (bb.drew) (fun hS0 => ?_)
    refine wpAnyJ_take (i := 0) (v := ?v0_29) rfl (by kernel_rfl) (by kernel_rfl) (by kernel_rfl) (by kernel_rfl) (fun _ _ _ h => h) (Or.inl (And.intro (by kernel_rfl) ?q0_29)) hS0 ?r0_29; (case q0_29 => (intro w hx; (try dsimp only); (try go_simp); (try with_reducible rfl)))
    (try simp only [Act.put, List.setIfInBounds_toArray, List.set_cons_zero, List.set_cons_succ, List.getElem_toArray, List.getElem_cons_succ, List.getElem_cons_zero])
    refine wpAnyJ_take (i := 1) (v := ?v1_30) rfl (by kernel_rfl) (by kernel_rfl) (by kernel_rfl) (by kernel_rfl) (fun _ _ _ h => h) (Or.inl (And.intro (by kernel_rfl) ?q1_30)) hS0 ?r1_30; (case q1_30 => (intro w hx; (try dsimp only); (try go_simp); (try with_reducible rfl)))
    (try simp only [Act.put, List.setIfInBounds_toArray, List.set_cons_zero, List.set_cons_succ, List.getElem_toArray, List.getElem_cons_succ, List.getElem_cons_zero])
    refine wpAnyJ_take (i := 2) (v := ?v2_31) rfl (by kernel_rfl) (by kernel_rfl) (by kernel_rfl) (by kernel_rfl) (fun _ _ _ h => h) (Or.inl (And.intro (by kernel_rfl) ?q2_31)) hS0 ?r2_31; (case q2_31 => (intro w hx; (try dsimp only); (try go_simp); (try with_reducible rfl)))
    (try simp only [Act.put, List.setIfInBounds_toArray, List.set_cons_zero, List.set_cons_succ, List.getElem_toArray, List.getElem_cons_succ, List.getElem_cons_zero])
    refine wpAnyJ_take (i := 3) (v := ?v3_32) rfl (by kernel_rfl) (by kernel_rfl) (by kernel_rfl) (by kernel_rfl) (fun _ _ _ h => h) (Or.inl (And.intro (by kernel_rfl) ?q3_32)) hS0 ?r3_32; (case q3_32 => (intro w hx; (try dsimp only); (try go_simp); (try with_reducible rfl)))
    (try simp only [Act.put, List.setIfInBounds_toArray, List.set_cons_zero, List.set_cons_succ, List.getElem_toArray, List.getElem_cons_succ, List.getElem_cons_zero])
    refine wpAnyJ_take (i := 4) (v := ?v4_33) rfl (by kernel_rfl) (by kernel_rfl) (by kernel_rfl) (by kernel_rfl) (fun _ _ _ h => h) (Or.inl (And.intro (by kernel_rfl) ?q4_33)) hS0 ?r4_33; (case q4_33 => (intro w hx; (try dsimp only); (try go_simp); (try with_reducible rfl)))
    (try simp only [Act.put, List.setIfInBounds_toArray, List.set_cons_zero, List.set_cons_succ, List.getElem_toArray, List.getElem_cons_succ, List.getElem_cons_zero])
    refine wpAnyJ_take (i := 5) (v := ?v5_34) rfl (by kernel_rfl) (by kernel_rfl) (by kernel_rfl) (by kernel_rfl) (fun _ _ _ h => h) (Or.inl (And.intro (by kernel_rfl) ?q5_34)) hS0 ?r5_34; (case q5_34 => (intro w hx; (try dsimp only); (try go_simp); (try with_reducible rfl)))
    (try simp only [Act.put, List.setIfInBounds_toArray, List.set_cons_zero, List.set_cons_succ, List.getElem_toArray, List.getElem_cons_succ, List.getElem_cons_zero])
    refine wpAnyJ_take (i := 6) (v := ?v6_35) rfl (by kernel_rfl) (by kernel_rfl) (by kernel_rfl) (by kernel_rfl) (fun _ _ _ h => h) (Or.inl (And.intro (by kernel_rfl) ?q6_35)) hS0 ?r6_35; (case q6_35 => (intro w hx; (try dsimp only); (try go_simp); (try with_reducible rfl)))
    (try simp only [Act.put, List.setIfInBounds_toArray, List.set_cons_zero, List.set_cons_succ, List.getElem_toArray, List.getElem_cons_succ, List.getElem_cons_zero])
    refine wpAnyJ_take (i := 7) (v := ?v7_36) rfl (by kernel_rfl) (by kernel_rfl) (by kernel_rfl) (by kernel_rfl) (fun _ _ _ h => h) (Or.inl (And.intro (by kernel_rfl) ?q7_36)) hS0 ?r7_36; (case q7_36 => (intro w hx; (try dsimp only); (try go_simp); (try with_reducible rfl)))
    (try simp only [Act.put, List.setIfInBounds_toArray, List.set_cons_zero, List.set_cons_succ, List.getElem_toArray, List.getElem_cons_succ, List.getElem_cons_zero])
    refine wpAnyJ_take (i := 8) (v := ?v8_37) rfl (by kernel_rfl) (by kernel_rfl) (by kernel_rfl) (by kernel_rfl) (fun _ _ _ h => h) (Or.inl (And.intro (by kernel_rfl) ?q8_37)) hS0 ?r8_37; (case q8_37 => (intro w hx; (try dsimp only); (try go_simp); (try with_reducible rfl)))
    (try simp only [Act.put, List.setIfInBounds_toArray, List.set_cons_zero, List.set_cons_succ, List.getElem_toArray, List.getElem_cons_succ, List.getElem_cons_zero])
    refine wpAnyJ_take (i := 9) (v := ?v9_38) rfl (by kernel_rfl) (by kernel_rfl) (by kernel_rfl) (by kernel_rfl) (fun _ _ _ h => h) (Or.inl (And.intro (by kernel_rfl) ?q9_38)) hS0 ?r9_38; (case q9_38 => (intro w hx; (try dsimp only); (try go_simp); (try with_reducible rfl)))
    (try simp only [Act.put, List.setIfInBounds_toArray, List.set_cons_zero, List.set_cons_succ, List.getElem_toArray, List.getElem_cons_succ, List.getElem_cons_zero])
    refine wpAnyJ_take (i := 10) (v := ?v10_39) rfl (by kernel_rfl) (by kernel_rfl) (by kernel_rfl) (by kernel_rfl) (fun _ _ _ h => h) (Or.inl (And.intro (by kernel_rfl) ?q10_39)) hS0 ?r10_39; (case q10_39 => (intro w hx; (try dsimp only); (try go_simp); (try with_reducible rfl)))
    (try simp only [Act.put, List.setIfInBounds_toArray, List.set_cons_zero, List.set_cons_succ, List.getElem_toArray, List.getElem_cons_succ, List.getElem_cons_zero])
    refine wpAnyJ_take (i := 11) (v := ?v11_40) rfl (by kernel_rfl) (by kernel_rfl) (by kernel_rfl) (by kernel_rfl) (fun _ _ _ h => h) (Or.inl (And.intro (by kernel_rfl) ?q11_40)) hS0 ?r11_40; (case q11_40 => (intro w hx; (try dsimp only); (try go_simp); (try with_reducible rfl)))
    (try simp only [Act.put, List.setIfInBounds_toArray, List.set_cons_zero, List.set_cons_succ, List.getElem_toArray, List.getElem_cons_succ, List.getElem_cons_zero])
    refine wpAnyJ_ready (rs := [12]) (by kernel_rfl) (by simp) ?_
    refine (AllReadyJ.cons rfl (fun K hK => ?_) AllReadyJ.nil)
    rw [if_pos (by kernel_rfl)]
    (try simp only [List.getElem_toArray, List.getElem_cons_succ, List.getElem_cons_zero])
    (focus go_simp)
    refine hK.out _ _ ?hs (fun hS0 => ?_)
    case hs => (first | with_reducible exact hS0 | exact bstep hS0 (fresh_below _ _))
    clear hK K
    (try simp only [Act.put, List.setIfInBounds_toArray, List.set_cons_zero, List.set_cons_succ, List.getElem_toArray, List.getElem_cons_succ, List.getElem_cons_zero])
    refine wpAnyJ_ready (rs := [13]) (by kernel_rfl) (by simp) ?_
    refine (AllReadyJ.last rfl (by kernel_rfl) (fun K hK => ?_) AllReadyJ.nil)
    rw [if_pos (by kernel_rfl)]
    (try simp only [List.getElem_toArray, List.getElem_cons_succ, List.getElem_cons_zero])
    (focus go_simp)
    refine hK.out _ _ ?_
    clear hK K
    (try simp only [Act.put, List.setIfInBounds_toArray, List.set_cons_zero, List.set_cons_succ, List.getElem_toArray, List.getElem_cons_succ, List.getElem_cons_zero])
    refine wpAnyJ_done (by kernel_rfl) ?_ _
  have n4 := Cells.drew (Cells.new w1 #[.int .i64 1, .int .u8 (pr4 m1), .int .u32 0, .int .i64 0, .int .u32 0, .int .i64 0, .int .u32 (151587081 + m2), .int .u16 (4 + m3), .int .u16 0, .int .u32 0, .int .u16 0] 30)
  have b4 : Below w1.heap.size w1 (World.drew (w1.alloc (.cells #[.int .i64 1, .int .u8 (pr4 m1), .int .u32 0, .int .i64 0, .int .u32 0, .int .i64 0, .int .u32 (151587081 + m2), .int .u16 (4 + m3), .int .u16 0, .int .u32 0, .int .u16 0] 30))) := (fresh_below _ _).drew
  clear fz hS0
  generalize (World.drew (w1.alloc (.cells #[.int .i64 1, .int .u8 (pr4 m1), .int .u32 0, .int .i64 0, .int .u32 0, .int .i64 0, .int .u32 (151587081 + m2), .int .u16 (4 + m3), .int .u16 0, .int .u32 0, .int .u16 0] 30))) = w4 at *
  have xn4_0 : w4.cell? ⟨w1.heap.size, 0, none⟩ = some (.int .i64 1) := n4.at_ 0
  have xn4_1 : w4.cell? ⟨w1.heap.size, 1, none⟩ = some (.int .u8 (pr4 m1)) := n4.at_ 1
  have xn4_2 : w4.cell? ⟨w1.heap.size, 2, none⟩ = some (.int .u32 0) := n4.at_ 2
  have xn4_3 : w4.cell? ⟨w1.heap.size, 3, none⟩ = some (.int .i64 0) := n4.at_ 3
  have xn4_4 : w4.cell? ⟨w1.heap.size, 4, none⟩ = some (.int .u32 0) := n4.at_ 4
  have xn4_5 : w4.cell? ⟨w1.heap.size, 5, none⟩ = some (.int .i64 0) := n4.at_ 5
  have xn4_6 : w4.cell? ⟨w1.heap.size, 6, none⟩ = some (.int .u32 (151587081 + m2)) := n4.at_ 6
  have xn4_7 : w4.cell? ⟨w1.heap.size, 7, none⟩ = some (.int .u16 (4 + m3)) := n4.at_ 7
  have xn4_8 : w4.cell? ⟨w1.heap.size, 8, none⟩ = some (.int .u16 0) := n4.at_ 8
  have xn4_9 : w4.cell? ⟨w1.heap.size, 9, none⟩ = some (.int .u32 0) := n4.at_ 9
  have xn4_10 : w4.cell? ⟨w1.heap.size, 10, none⟩ = some (.int .u16 0) := n4.at_ 10
  have yn4_0 : w4.frozen? ⟨w1.heap.size, 0, none⟩ = false := n4.free 0
  have yn4_1 : w4.frozen? ⟨w1.heap.size, 1, none⟩ = false := n4.free 1
  have yn4_2 : w4.frozen? ⟨w1.heap.size, 2, none⟩ = false := n4.free 2
  have yn4_3 : w4.frozen? ⟨w1.heap.size, 3, none⟩ = false := n4.free 3
  have yn4_4 : w4.frozen? ⟨w1.heap.size, 4, none⟩ = false := n4.free 4
  have yn4_5 : w4.frozen? ⟨w1.heap.size, 5, none⟩ = false := n4.free 5
  have yn4_6 : w4.frozen? ⟨w1.heap.size, 6, none⟩ = false := n4.free 6
  have yn4_7 : w4.frozen? ⟨w1.heap.size, 7, none⟩ = false := n4.free 7
  have yn4_8 : w4.frozen? ⟨w1.heap.size, 8, none⟩ = false := n4.free 8
  have yn4_9 : w4.frozen? ⟨w1.heap.size, 9, none⟩ = false := n4.free 9
  have yn4_10 : w4.frozen? ⟨w1.heap.size, 10, none⟩ = false := n4.free 10
  have N4 := hide n4
  clear n4
  have u3 : IntKind.u16.wrap (m7 % 4) = m7 % 4 := IntWalk.u16_in _ (by omega)
  have u4 : IntKind.u16.wrap (4 + m3 + m7 % 4) = 4 + m3 + m7 % 4 := IntWalk.u16_in _ (by omega)
  go_upto_region 6 with fail
  have n5 := (Cells.set_ N4.out 8 (.int .u16 (4 + m3 + m7 % 4))).as (show _ = #[.int .i64 1, .int .u8 (pr4 m1), .int .u32 0, .int .i64 0, .int .u32 0, .int .i64 0, .int .u32 (151587081 + m2), .int .u16 (4 + m3), .int .u16 (4 + m3 + m7 % 4), .int .u32 0, .int .u16 0] from by simp)
  have b5 := Below.setCell b4 (p := ⟨w1.heap.size, 8, none⟩) (Nat.le_refl _) (.int .u16 (4 + m3 + m7 % 4))
  clear xn4_0 xn4_1 xn4_2 xn4_3 xn4_4 xn4_5 xn4_6 xn4_7 xn4_8 xn4_9 xn4_10 yn4_0 yn4_1 yn4_2 yn4_3 yn4_4 yn4_5 yn4_6 yn4_7 yn4_8 yn4_9 yn4_10 b4 N4
  generalize w4.setCell ⟨w1.heap.size, 8, none⟩ (.int .u16 (4 + m3 + m7 % 4)) = w5 at *
  have d0' := hide (Cells.below b5 D0.out)
  have fz : ∀ W' i, Below w5.heap.size w5 W' → World.frozen? W' ⟨w1.heap.size, i, none⟩ = false := fun W' i h => Cells.free (Cells.below h n5) i
  have cz : ∀ W', Below w5.heap.size w5 W' → World.cell? W' ⟨w1.heap.size, 2, none⟩ = some (.int .u32 0) := fun W' h => Cells.at_ (Cells.below h n5) 2
  have cz3 : ∀ W', Below w5.heap.size w5 W' → World.cell? W' ⟨w1.heap.size, 3, none⟩ = some (.int .i64 0) := fun W' h => Cells.at_ (Cells.below h n5) 3
  have e0 := d0'.out
  have qe0_0 : ∀ W', Below w5.heap.size w5 W' → World.cell? W' ⟨w.heap.size, 0, none⟩ = some (.int .u8 a0) := fun W' h => Cells.at_ (Cells.below h e0) 0
  have qe0_1 : ∀ W', Below w5.heap.size w5 W' → World.cell? W' ⟨w.heap.size, 1, none⟩ = some (.int .u8 a1) := fun W' h => Cells.at_ (Cells.below h e0) 1
  have qe0_2 : ∀ W', Below w5.heap.size w5 W' → World.cell? W' ⟨w.heap.size, 2, none⟩ = some (.int .u8 a2) := fun W' h => Cells.at_ (Cells.below h e0) 2
  have qe0_3 : ∀ W', Below w5.heap.size w5 W' → World.cell? W' ⟨w.heap.size, 3, none⟩ = some (.int .u8 a3) := fun W' h => Cells.at_ (Cells.below h e0) 3
  have qe0_4 : ∀ W', Below w5.heap.size w5 W' → World.cell? W' ⟨w.heap.size, 4, none⟩ = some (.int .u8 a4) := fun W' h => Cells.at_ (Cells.below h e0) 4
  have qe0_5 : ∀ W', Below w5.heap.size w5 W' → World.cell? W' ⟨w.heap.size, 5, none⟩ = some (.int .u8 a5) := fun W' h => Cells.at_ (Cells.below h e0) 5
  have L5 := hide b5; have N5 := hide n5; have E0 := hide e0
  have bb5 : Below w5.heap.size w5 w5 := Below.refl _ _
  clear b5 n5 qd0_0 qd0_1 qd0_2 qd0_3 qd0_4 qd0_5 d0' e0
  focus
    refine wp_region_J [10] (fun W => Below w5.heap.size w5 W) (by kernel_rfl) (bb5.drew) (fun hS0 => ?_)
    refine wpAnyJ_take (i := 0) (v := ?v0_41) rfl (by kernel_rfl) (by kernel_rfl) (by kernel_rfl) (by kernel_rfl) (fun _ _ _ h => h) (Or.inl (And.intro (by kernel_rfl) ?q0_41)) hS0 ?r0_41; (case q0_41 => (intro w hx; (try dsimp only); (try go_simp); (try with_reducible rfl)))
    (try simp only [Act.put, List.setIfInBounds_toArray, List.set_cons_zero, List.set_cons_succ, List.getElem_toArray, List.getElem_cons_succ, List.getElem_cons_zero])
    refine wpAnyJ_take (i := 2) (v := ?v2_42) rfl (by kernel_rfl) (by kernel_rfl) (by kernel_rfl) (by kernel_rfl) (fun _ _ _ h => h) (Or.inl (And.intro (by kernel_rfl) ?q2_42)) hS0 ?r2_42; (case q2_42 => (intro w hx; (try dsimp only); (try go_simp); (try with_reducible rfl)))
    (try simp only [Act.put, List.setIfInBounds_toArray, List.set_cons_zero, List.set_cons_succ, List.getElem_toArray, List.getElem_cons_succ, List.getElem_cons_zero])
    refine wpAnyJ_take (i := 3) (v := ?v3_43) rfl (by kernel_rfl) (by kernel_rfl) (by kernel_rfl) (by kernel_rfl) (fun _ _ _ h => h) (Or.inl (And.intro (by kernel_rfl) ?q3_43)) hS0 ?r3_43; (case q3_43 => (intro w hx; (try dsimp only); (try go_simp); (try with_reducible rfl)))
    (try simp only [Act.put, List.setIfInBounds_toArray, List.set_cons_zero, List.set_cons_succ, List.getElem_toArray, List.getElem_cons_succ, List.getElem_cons_zero])
    refine wpAnyJ_take (i := 5) (v := ?v5_44) rfl (by kernel_rfl) (by kernel_rfl) (by kernel_rfl) (by kernel_rfl) (fun _ _ _ h => h) (Or.inl (And.intro (by kernel_rfl) ?q5_44)) hS0 ?r5_44; (case q5_44 => (intro w hx; (try dsimp only); (try go_simp); (try with_reducible rfl)))
    (try simp only [Act.put, List.setIfInBounds_toArray, List.set_cons_zero, List.set_cons_succ, List.getElem_toArray, List.getElem_cons_succ, List.getElem_cons_zero])
    refine wpAnyJ_take (i := 6) (v := ?v6_45) rfl (by kernel_rfl) (by kernel_rfl) (by kernel_rfl) (by kernel_rfl) (fun _ _ _ h => h) (Or.inl (And.intro (by kernel_rfl) ?q6_45)) hS0 ?r6_45; (case q6_45 => (intro w hx; (try dsimp only); (try go_simp); (try with_reducible rfl)))
    (try simp only [Act.put, List.setIfInBounds_toArray, List.set_cons_zero, List.set_cons_succ, List.getElem_toArray, List.getElem_cons_succ, List.getElem_cons_zero])
    refine wpAnyJ_take (i := 7) (v := ?v7_46) rfl (by kernel_rfl) (by kernel_rfl) (by kernel_rfl) (by kernel_rfl) (fun _ _ _ h => h) (Or.inl (And.intro (by kernel_rfl) ?q7_46)) hS0 ?r7_46; (case q7_46 => (intro w hx; (try dsimp only); (try go_simp); (try with_reducible rfl)))
    (try simp only [Act.put, List.setIfInBounds_toArray, List.set_cons_zero, List.set_cons_succ, List.getElem_toArray, List.getElem_cons_succ, List.getElem_cons_zero])
    refine wpAnyJ_ready (rs := [1]) (by kernel_rfl) (by simp) ?_
    refine (AllReadyJ.cons rfl (fun K hK => ?_) AllReadyJ.nil)
    rw [if_pos (by kernel_rfl)]
    (try simp only [List.getElem_toArray, List.getElem_cons_succ, List.getElem_cons_zero])
    (focus go_simp)
    (focus ((with_reducible refine (C0.out _).mono ?_); rintro e wq ⟨rfl, bq⟩))
    (focus (try go_wp2_with fail))
    refine hK.out _ _ ?hs (fun hS0 => ?_)
    case hs => (first | with_reducible exact hS0 | exact bstep hS0 bq)
    clear hK K
    (try simp only [Act.put, List.setIfInBounds_toArray, List.set_cons_zero, List.set_cons_succ, List.getElem_toArray, List.getElem_cons_succ, List.getElem_cons_zero])
    refine wpAnyJ_take (i := 4) (v := ?v4_47) rfl (by kernel_rfl) (by kernel_rfl) (by kernel_rfl) (by kernel_rfl) (fun _ _ _ h => h) (Or.inl (And.intro (by kernel_rfl) ?q4_47)) hS0 ?r4_47; (case q4_47 => (intro w hx; (try dsimp only); (try go_simp); (try with_reducible rfl)))
    (try simp only [Act.put, List.setIfInBounds_toArray, List.set_cons_zero, List.set_cons_succ, List.getElem_toArray, List.getElem_cons_succ, List.getElem_cons_zero])
    refine wpAnyJ_take (i := 8) (v := ?v8_48) rfl (by kernel_rfl) (by kernel_rfl) (by kernel_rfl) (by kernel_rfl) (fun _ _ _ h => h) (Or.inl (And.intro (by kernel_rfl) ?q8_48)) hS0 ?r8_48; (case q8_48 => (intro w hx; (try dsimp only); (try go_simp); (try with_reducible rfl)))
    (try simp only [Act.put, List.setIfInBounds_toArray, List.set_cons_zero, List.set_cons_succ, List.getElem_toArray, List.getElem_cons_succ, List.getElem_cons_zero])
    refine wpAnyJ_take (i := 9) (v := ?v9_49) rfl (by kernel_rfl) (by kernel_rfl) (by kernel_rfl) (by kernel_rfl) (fun _ _ _ h => h) (Or.inl (And.intro (by kernel_rfl) ?q9_49)) hS0 ?r9_49; (case q9_49 => (intro w hx; (try dsimp only); (try go_simp); (try with_reducible rfl)))
    (try simp only [Act.put, List.setIfInBounds_toArray, List.set_cons_zero, List.set_cons_succ, List.getElem_toArray, List.getElem_cons_succ, List.getElem_cons_zero])
    refine wpAnyJ_ready (rs := [10]) (by kernel_rfl) (by simp) ?_
    refine (AllReadyJ.last rfl (by kernel_rfl) (fun K hK => ?_) AllReadyJ.nil)
    rw [if_pos (by kernel_rfl)]
    (try simp only [List.getElem_toArray, List.getElem_cons_succ, List.getElem_cons_zero])
    (focus go_simp)
    refine hK.out _ _ ?_
    clear hK K
    (try simp only [Act.put, List.setIfInBounds_toArray, List.set_cons_zero, List.set_cons_succ, List.getElem_toArray, List.getElem_cons_succ, List.getElem_cons_zero])
    refine wpAnyJ_done (by kernel_rfl) ?_ _
  have n6 := (Cells.set_ (Cells.set_ (Cells.below hS0 N5.out) 2 (.int .u32 (pxI m4))) 3 (.int .i64 (pxB m4))).as (show _ = #[.int .i64 1, .int .u8 (pr4 m1), .int .u32 (pxI m4), .int .i64 (pxB m4), .int .u32 0, .int .i64 0, .int .u32 (151587081 + m2), .int .u16 (4 + m3), .int .u16 (4 + m3 + m7 % 4), .int .u32 0, .int .u16 0] from by simp)
  have hsz : w.heap.size ≤ w1.heap.size := L0.out.size
  have h15 : w1.heap.size < w5.heap.size := Cells.lt N5.out
  have b6 := Below.setCell (Below.setCell (bstep L5.out hS0) (p := ⟨w1.heap.size, 2, none⟩) (Nat.le_refl _) (.int .u32 (pxI m4))) (p := ⟨w1.heap.size, 3, none⟩) (Nat.le_refl _) (.int .i64 (pxB m4))
  clear fz cz cz3 qe0_0 qe0_1 qe0_2 qe0_3 qe0_4 qe0_5 bb5 N5 E0
  generalize (wq.setCell ⟨w1.heap.size, 2, none⟩ (.int .u32 (pxI m4))).setCell ⟨w1.heap.size, 3, none⟩ (.int .i64 (pxB m4)) = w6 at *
  have e0 := Cells.below b6 D0.out; have e1 := Cells.below b6 D1.out
  have xe0_0 : w6.cell? ⟨w.heap.size, 0, none⟩ = some (.int .u8 a0) := e0.at_ 0
  have xe0_1 : w6.cell? ⟨w.heap.size, 1, none⟩ = some (.int .u8 a1) := e0.at_ 1
  have xe0_2 : w6.cell? ⟨w.heap.size, 2, none⟩ = some (.int .u8 a2) := e0.at_ 2
  have xe0_3 : w6.cell? ⟨w.heap.size, 3, none⟩ = some (.int .u8 a3) := e0.at_ 3
  have xe0_4 : w6.cell? ⟨w.heap.size, 4, none⟩ = some (.int .u8 a4) := e0.at_ 4
  have xe0_5 : w6.cell? ⟨w.heap.size, 5, none⟩ = some (.int .u8 a5) := e0.at_ 5
  have xn6_0 : w6.cell? ⟨w1.heap.size, 0, none⟩ = some (.int .i64 1) := n6.at_ 0
  have xn6_1 : w6.cell? ⟨w1.heap.size, 1, none⟩ = some (.int .u8 (pr4 m1)) := n6.at_ 1
  have xn6_2 : w6.cell? ⟨w1.heap.size, 2, none⟩ = some (.int .u32 (pxI m4)) := n6.at_ 2
  have xn6_3 : w6.cell? ⟨w1.heap.size, 3, none⟩ = some (.int .i64 (pxB m4)) := n6.at_ 3
  have xn6_4 : w6.cell? ⟨w1.heap.size, 4, none⟩ = some (.int .u32 0) := n6.at_ 4
  have xn6_5 : w6.cell? ⟨w1.heap.size, 5, none⟩ = some (.int .i64 0) := n6.at_ 5
  have xn6_6 : w6.cell? ⟨w1.heap.size, 6, none⟩ = some (.int .u32 (151587081 + m2)) := n6.at_ 6
  have xn6_7 : w6.cell? ⟨w1.heap.size, 7, none⟩ = some (.int .u16 (4 + m3)) := n6.at_ 7
  have xn6_8 : w6.cell? ⟨w1.heap.size, 8, none⟩ = some (.int .u16 (4 + m3 + m7 % 4)) := n6.at_ 8
  have xn6_9 : w6.cell? ⟨w1.heap.size, 9, none⟩ = some (.int .u32 0) := n6.at_ 9
  have xn6_10 : w6.cell? ⟨w1.heap.size, 10, none⟩ = some (.int .u16 0) := n6.at_ 10
  have yn6_0 : w6.frozen? ⟨w1.heap.size, 0, none⟩ = false := n6.free 0
  have yn6_1 : w6.frozen? ⟨w1.heap.size, 1, none⟩ = false := n6.free 1
  have yn6_2 : w6.frozen? ⟨w1.heap.size, 2, none⟩ = false := n6.free 2
  have yn6_3 : w6.frozen? ⟨w1.heap.size, 3, none⟩ = false := n6.free 3
  have yn6_4 : w6.frozen? ⟨w1.heap.size, 4, none⟩ = false := n6.free 4
  have yn6_5 : w6.frozen? ⟨w1.heap.size, 5, none⟩ = false := n6.free 5
  have yn6_6 : w6.frozen? ⟨w1.heap.size, 6, none⟩ = false := n6.free 6
  have yn6_7 : w6.frozen? ⟨w1.heap.size, 7, none⟩ = false := n6.free 7
  have yn6_8 : w6.frozen? ⟨w1.heap.size, 8, none⟩ = false := n6.free 8
  have yn6_9 : w6.frozen? ⟨w1.heap.size, 9, none⟩ = false := n6.free 9
  have yn6_10 : w6.frozen? ⟨w1.heap.size, 10, none⟩ = false := n6.free 10
  clear hS0
  go_upto_region 8 with fail
  have n7 := (Cells.set_ (Cells.set_ n6 4 (.int .u32 (qxI m5))) 5 (.int .i64 (qxB m5))).as (show _ = #[.int .i64 1, .int .u8 (pr4 m1), .int .u32 (pxI m4), .int .i64 (pxB m4), .int .u32 (qxI m5), .int .i64 (qxB m5), .int .u32 (151587081 + m2), .int .u16 (4 + m3), .int .u16 (4 + m3 + m7 % 4), .int .u32 0, .int .u16 0] from by simp)
  have b7 := Below.setCell (Below.setCell b6 (p := ⟨w1.heap.size, 4, none⟩) (Nat.le_refl _) (.int .u32 (qxI m5))) (p := ⟨w1.heap.size, 5, none⟩) (Nat.le_refl _) (.int .i64 (qxB m5))
  clear xe0_0 xe0_1 xe0_2 xe0_3 xe0_4 xe0_5 xn6_0 yn6_0 xn6_1 yn6_1 xn6_2 yn6_2 xn6_3 yn6_3 xn6_4 yn6_4 xn6_5 yn6_5 xn6_6 yn6_6 xn6_7 yn6_7 xn6_8 yn6_8 xn6_9 yn6_9 xn6_10 yn6_10 b6 n6 e0 e1
  generalize (w6.setCell ⟨w1.heap.size, 4, none⟩ (.int .u32 (qxI m5))).setCell ⟨w1.heap.size, 5, none⟩ (.int .i64 (qxB m5)) = w7 at *
  have e0 := Cells.below b7 D0.out
  have xe0_0 : w7.cell? ⟨w.heap.size, 0, none⟩ = some (.int .u8 a0) := e0.at_ 0
  have xe0_1 : w7.cell? ⟨w.heap.size, 1, none⟩ = some (.int .u8 a1) := e0.at_ 1
  have xe0_2 : w7.cell? ⟨w.heap.size, 2, none⟩ = some (.int .u8 a2) := e0.at_ 2
  have xe0_3 : w7.cell? ⟨w.heap.size, 3, none⟩ = some (.int .u8 a3) := e0.at_ 3
  have xe0_4 : w7.cell? ⟨w.heap.size, 4, none⟩ = some (.int .u8 a4) := e0.at_ 4
  have xe0_5 : w7.cell? ⟨w.heap.size, 5, none⟩ = some (.int .u8 a5) := e0.at_ 5
  have xn7_0 : w7.cell? ⟨w1.heap.size, 0, none⟩ = some (.int .i64 1) := n7.at_ 0
  have xn7_1 : w7.cell? ⟨w1.heap.size, 1, none⟩ = some (.int .u8 (pr4 m1)) := n7.at_ 1
  have xn7_2 : w7.cell? ⟨w1.heap.size, 2, none⟩ = some (.int .u32 (pxI m4)) := n7.at_ 2
  have xn7_3 : w7.cell? ⟨w1.heap.size, 3, none⟩ = some (.int .i64 (pxB m4)) := n7.at_ 3
  have xn7_4 : w7.cell? ⟨w1.heap.size, 4, none⟩ = some (.int .u32 (qxI m5)) := n7.at_ 4
  have xn7_5 : w7.cell? ⟨w1.heap.size, 5, none⟩ = some (.int .i64 (qxB m5)) := n7.at_ 5
  have xn7_6 : w7.cell? ⟨w1.heap.size, 6, none⟩ = some (.int .u32 (151587081 + m2)) := n7.at_ 6
  have xn7_7 : w7.cell? ⟨w1.heap.size, 7, none⟩ = some (.int .u16 (4 + m3)) := n7.at_ 7
  have xn7_8 : w7.cell? ⟨w1.heap.size, 8, none⟩ = some (.int .u16 (4 + m3 + m7 % 4)) := n7.at_ 8
  have xn7_9 : w7.cell? ⟨w1.heap.size, 9, none⟩ = some (.int .u32 0) := n7.at_ 9
  have xn7_10 : w7.cell? ⟨w1.heap.size, 10, none⟩ = some (.int .u16 0) := n7.at_ 10
  have yn7_0 : w7.frozen? ⟨w1.heap.size, 0, none⟩ = false := n7.free 0
  have yn7_1 : w7.frozen? ⟨w1.heap.size, 1, none⟩ = false := n7.free 1
  have yn7_2 : w7.frozen? ⟨w1.heap.size, 2, none⟩ = false := n7.free 2
  have yn7_3 : w7.frozen? ⟨w1.heap.size, 3, none⟩ = false := n7.free 3
  have yn7_4 : w7.frozen? ⟨w1.heap.size, 4, none⟩ = false := n7.free 4
  have yn7_5 : w7.frozen? ⟨w1.heap.size, 5, none⟩ = false := n7.free 5
  have yn7_6 : w7.frozen? ⟨w1.heap.size, 6, none⟩ = false := n7.free 6
  have yn7_7 : w7.frozen? ⟨w1.heap.size, 7, none⟩ = false := n7.free 7
  have yn7_8 : w7.frozen? ⟨w1.heap.size, 8, none⟩ = false := n7.free 8
  have yn7_9 : w7.frozen? ⟨w1.heap.size, 9, none⟩ = false := n7.free 9
  have yn7_10 : w7.frozen? ⟨w1.heap.size, 10, none⟩ = false := n7.free 10
  by_cases hk : m0 = 1
  · subst hk
    have N7 := hide n7; have B7 := hide b7
    clear n7 b7 e0
    go_upto_region 10 with fail
    have n8 := (Cells.set_ (Cells.set_ N7.out 0 (.int .i64 2)) 6 (.int .u32 0)).as (show _ = #[.int .i64 2, .int .u8 (pr4 m1), .int .u32 (pxI m4), .int .i64 (pxB m4), .int .u32 (qxI m5), .int .i64 (qxB m5), .int .u32 0, .int .u16 (4 + m3), .int .u16 (4 + m3 + m7 % 4), .int .u32 0, .int .u16 0] from by simp)
    have b8 := Below.setCell (Below.setCell B7.out (p := ⟨w1.heap.size, 0, none⟩) (Nat.le_refl _) (.int .i64 2)) (p := ⟨w1.heap.size, 6, none⟩) (Nat.le_refl _) (.int .u32 0)
    clear xe0_0 xe0_1 xe0_2 xe0_3 xe0_4 xe0_5 xn7_0 yn7_0 xn7_1 yn7_1 xn7_2 yn7_2 xn7_3 yn7_3 xn7_4 yn7_4 xn7_5 yn7_5 xn7_6 yn7_6 xn7_7 yn7_7 xn7_8 yn7_8 xn7_9 yn7_9 xn7_10 yn7_10 B7 N7
    generalize (w7.setCell ⟨w1.heap.size, 0, none⟩ (.int .i64 2)).setCell ⟨w1.heap.size, 6, none⟩ (.int .u32 0) = w8 at *
    have xn8_0 : w8.cell? ⟨w1.heap.size, 0, none⟩ = some (.int .i64 2) := n8.at_ 0
    have xn8_1 : w8.cell? ⟨w1.heap.size, 1, none⟩ = some (.int .u8 (pr4 m1)) := n8.at_ 1
    have xn8_2 : w8.cell? ⟨w1.heap.size, 2, none⟩ = some (.int .u32 (pxI m4)) := n8.at_ 2
    have xn8_3 : w8.cell? ⟨w1.heap.size, 3, none⟩ = some (.int .i64 (pxB m4)) := n8.at_ 3
    have xn8_4 : w8.cell? ⟨w1.heap.size, 4, none⟩ = some (.int .u32 (qxI m5)) := n8.at_ 4
    have xn8_5 : w8.cell? ⟨w1.heap.size, 5, none⟩ = some (.int .i64 (qxB m5)) := n8.at_ 5
    have xn8_6 : w8.cell? ⟨w1.heap.size, 6, none⟩ = some (.int .u32 0) := n8.at_ 6
    have xn8_7 : w8.cell? ⟨w1.heap.size, 7, none⟩ = some (.int .u16 (4 + m3)) := n8.at_ 7
    have xn8_8 : w8.cell? ⟨w1.heap.size, 8, none⟩ = some (.int .u16 (4 + m3 + m7 % 4)) := n8.at_ 8
    have xn8_9 : w8.cell? ⟨w1.heap.size, 9, none⟩ = some (.int .u32 0) := n8.at_ 9
    have xn8_10 : w8.cell? ⟨w1.heap.size, 10, none⟩ = some (.int .u16 0) := n8.at_ 10
    have e1 := Cells.below b8 D1.out
    have xe1_0 : w8.cell? ⟨w.heap.size + 1, 0, none⟩ = some (.int .i64 0) := e1.at_ 0
    have xe1_1 : w8.cell? ⟨w.heap.size + 1, 1, none⟩ = some (.int .u8 0) := e1.at_ 1
    have xe1_2 : w8.cell? ⟨w.heap.size + 1, 2, none⟩ = some (.int .u32 0) := e1.at_ 2
    have xe1_3 : w8.cell? ⟨w.heap.size + 1, 3, none⟩ = some (.int .i64 0) := e1.at_ 3
    have xe1_4 : w8.cell? ⟨w.heap.size + 1, 4, none⟩ = some (.int .u32 0) := e1.at_ 4
    have xe1_5 : w8.cell? ⟨w.heap.size + 1, 5, none⟩ = some (.int .i64 0) := e1.at_ 5
    have xe1_6 : w8.cell? ⟨w.heap.size + 1, 6, none⟩ = some (.int .u32 0) := e1.at_ 6
    have xe1_7 : w8.cell? ⟨w.heap.size + 1, 7, none⟩ = some (.int .u16 0) := e1.at_ 7
    have xe1_8 : w8.cell? ⟨w.heap.size + 1, 8, none⟩ = some (.int .u16 0) := e1.at_ 8
    have xe1_9 : w8.cell? ⟨w.heap.size + 1, 9, none⟩ = some (.int .u32 0) := e1.at_ 9
    have xe1_10 : w8.cell? ⟨w.heap.size + 1, 10, none⟩ = some (.int .u16 0) := e1.at_ 10
    have ye1_0 : w8.frozen? ⟨w.heap.size + 1, 0, none⟩ = false := e1.free 0
    have ye1_1 : w8.frozen? ⟨w.heap.size + 1, 1, none⟩ = false := e1.free 1
    have ye1_2 : w8.frozen? ⟨w.heap.size + 1, 2, none⟩ = false := e1.free 2
    have ye1_3 : w8.frozen? ⟨w.heap.size + 1, 3, none⟩ = false := e1.free 3
    have ye1_4 : w8.frozen? ⟨w.heap.size + 1, 4, none⟩ = false := e1.free 4
    have ye1_5 : w8.frozen? ⟨w.heap.size + 1, 5, none⟩ = false := e1.free 5
    have ye1_6 : w8.frozen? ⟨w.heap.size + 1, 6, none⟩ = false := e1.free 6
    have ye1_7 : w8.frozen? ⟨w.heap.size + 1, 7, none⟩ = false := e1.free 7
    have ye1_8 : w8.frozen? ⟨w.heap.size + 1, 8, none⟩ = false := e1.free 8
    have ye1_9 : w8.frozen? ⟨w.heap.size + 1, 9, none⟩ = false := e1.free 9
    have ye1_10 : w8.frozen? ⟨w.heap.size + 1, 10, none⟩ = false := e1.free 10
    have d5 := hide e1; have l5 := hide (bstep L0.out b8)
    clear e1
    go_wp2_with fail
    have d5 := d5.out; have l5 := l5.out
    clear xn8_0 xn8_1 xn8_2 xn8_3 xn8_4 xn8_5 xn8_6 xn8_7 xn8_8 xn8_9 xn8_10 xe1_0 ye1_0 xe1_1 ye1_1 xe1_2 ye1_2 xe1_3 ye1_3 xe1_4 ye1_4 xe1_5 ye1_5 xe1_6 ye1_6 xe1_7 ye1_7 xe1_8 ye1_8 xe1_9 ye1_9 xe1_10 ye1_10
    have r5 := (Cells.put11 d5 (.int .i64 2) (.int .u8 (pr4 m1)) (.int .u32 (pxI m4)) (.int .i64 (pxB m4)) (.int .u32 (qxI m5)) (.int .i64 (qxB m5)) (.int .u32 0) (.int .u16 (4 + m3)) (.int .u16 (4 + m3 + m7 % 4)) (.int .u32 0) (.int .u16 0))
    have b5 := (Below.put11 l5 (b := w.heap.size + 1) (by first | exact Nat.le_refl _ | omega) (.int .i64 2) (.int .u8 (pr4 m1)) (.int .u32 (pxI m4)) (.int .i64 (pxB m4)) (.int .u32 (qxI m5)) (.int .i64 (qxB m5)) (.int .u32 0) (.int .u16 (4 + m3)) (.int .u16 (4 + m3 + m7 % 4)) (.int .u32 0) (.int .u16 0))
    have HR5 := hide r5; have HB5 := hide b5
    clear r5 b5 d5
    generalize (((((((((((w8.setCell ⟨w.heap.size + 1, 0, none⟩ (.int .i64 2)).setCell ⟨w.heap.size + 1, 1, none⟩ (.int .u8 (pr4 m1))).setCell ⟨w.heap.size + 1, 2, none⟩ (.int .u32 (pxI m4))).setCell ⟨w.heap.size + 1, 3, none⟩ (.int .i64 (pxB m4))).setCell ⟨w.heap.size + 1, 4, none⟩ (.int .u32 (qxI m5))).setCell ⟨w.heap.size + 1, 5, none⟩ (.int .i64 (qxB m5))).setCell ⟨w.heap.size + 1, 6, none⟩ (.int .u32 0)).setCell ⟨w.heap.size + 1, 7, none⟩ (.int .u16 (4 + m3))).setCell ⟨w.heap.size + 1, 8, none⟩ (.int .u16 (4 + m3 + m7 % 4))).setCell ⟨w.heap.size + 1, 9, none⟩ (.int .u32 0)).setCell ⟨w.heap.size + 1, 10, none⟩ (.int .u16 0)) = W5 at *
    have r5 := HR5.out; have b5 := HB5.out
    clear HR5 HB5
    have xr5_0 : W5.cell? ⟨w.heap.size + 1, 0, none⟩ = some (.int .i64 2) := r5.at_ 0
    have xr5_1 : W5.cell? ⟨w.heap.size + 1, 1, none⟩ = some (.int .u8 (pr4 m1)) := r5.at_ 1
    have xr5_2 : W5.cell? ⟨w.heap.size + 1, 2, none⟩ = some (.int .u32 (pxI m4)) := r5.at_ 2
    have xr5_3 : W5.cell? ⟨w.heap.size + 1, 3, none⟩ = some (.int .i64 (pxB m4)) := r5.at_ 3
    have xr5_4 : W5.cell? ⟨w.heap.size + 1, 4, none⟩ = some (.int .u32 (qxI m5)) := r5.at_ 4
    have xr5_5 : W5.cell? ⟨w.heap.size + 1, 5, none⟩ = some (.int .i64 (qxB m5)) := r5.at_ 5
    have xr5_6 : W5.cell? ⟨w.heap.size + 1, 6, none⟩ = some (.int .u32 0) := r5.at_ 6
    have xr5_7 : W5.cell? ⟨w.heap.size + 1, 7, none⟩ = some (.int .u16 (4 + m3)) := r5.at_ 7
    have xr5_8 : W5.cell? ⟨w.heap.size + 1, 8, none⟩ = some (.int .u16 (4 + m3 + m7 % 4)) := r5.at_ 8
    have xr5_9 : W5.cell? ⟨w.heap.size + 1, 9, none⟩ = some (.int .u32 0) := r5.at_ 9
    have xr5_10 : W5.cell? ⟨w.heap.size + 1, 10, none⟩ = some (.int .u16 0) := r5.at_ 10
    (try simp only [Exit.inBlock, Exit.then]); refine bodyPost_ret (by simp [results, Try.results27, go_sem, *]; try rfl) rfl ?_
    rw [HR.out]
    exact ⟨rfl, b5⟩
  · have g1 : (m0 == 1) = false := by simp [hk]
    have N7 := hide n7; have B7 := hide b7
    clear n7 b7 e0
    go_upto_region 10 with fail
    have n8 := N7.out; have b8 := B7.out
    clear xe0_0 xe0_1 xe0_2 xe0_3 xe0_4 xe0_5 xn7_0 yn7_0 xn7_1 yn7_1 xn7_2 yn7_2 xn7_3 yn7_3 xn7_4 yn7_4 xn7_5 yn7_5 xn7_6 yn7_6 xn7_7 yn7_7 xn7_8 yn7_8 xn7_9 yn7_9 xn7_10 yn7_10 B7 N7
    have HR' := hide HR.out
    have xn8_0 : w7.cell? ⟨w1.heap.size, 0, none⟩ = some (.int .i64 1) := n8.at_ 0
    have xn8_1 : w7.cell? ⟨w1.heap.size, 1, none⟩ = some (.int .u8 (pr4 m1)) := n8.at_ 1
    have xn8_2 : w7.cell? ⟨w1.heap.size, 2, none⟩ = some (.int .u32 (pxI m4)) := n8.at_ 2
    have xn8_3 : w7.cell? ⟨w1.heap.size, 3, none⟩ = some (.int .i64 (pxB m4)) := n8.at_ 3
    have xn8_4 : w7.cell? ⟨w1.heap.size, 4, none⟩ = some (.int .u32 (qxI m5)) := n8.at_ 4
    have xn8_5 : w7.cell? ⟨w1.heap.size, 5, none⟩ = some (.int .i64 (qxB m5)) := n8.at_ 5
    have xn8_6 : w7.cell? ⟨w1.heap.size, 6, none⟩ = some (.int .u32 (151587081 + m2)) := n8.at_ 6
    have xn8_7 : w7.cell? ⟨w1.heap.size, 7, none⟩ = some (.int .u16 (4 + m3)) := n8.at_ 7
    have xn8_8 : w7.cell? ⟨w1.heap.size, 8, none⟩ = some (.int .u16 (4 + m3 + m7 % 4)) := n8.at_ 8
    have xn8_9 : w7.cell? ⟨w1.heap.size, 9, none⟩ = some (.int .u32 0) := n8.at_ 9
    have xn8_10 : w7.cell? ⟨w1.heap.size, 10, none⟩ = some (.int .u16 0) := n8.at_ 10
    have e1 := Cells.below b8 D1.out
    have xe1_0 : w7.cell? ⟨w.heap.size + 1, 0, none⟩ = some (.int .i64 0) := e1.at_ 0
    have xe1_1 : w7.cell? ⟨w.heap.size + 1, 1, none⟩ = some (.int .u8 0) := e1.at_ 1
    have xe1_2 : w7.cell? ⟨w.heap.size + 1, 2, none⟩ = some (.int .u32 0) := e1.at_ 2
    have xe1_3 : w7.cell? ⟨w.heap.size + 1, 3, none⟩ = some (.int .i64 0) := e1.at_ 3
    have xe1_4 : w7.cell? ⟨w.heap.size + 1, 4, none⟩ = some (.int .u32 0) := e1.at_ 4
    have xe1_5 : w7.cell? ⟨w.heap.size + 1, 5, none⟩ = some (.int .i64 0) := e1.at_ 5
    have xe1_6 : w7.cell? ⟨w.heap.size + 1, 6, none⟩ = some (.int .u32 0) := e1.at_ 6
    have xe1_7 : w7.cell? ⟨w.heap.size + 1, 7, none⟩ = some (.int .u16 0) := e1.at_ 7
    have xe1_8 : w7.cell? ⟨w.heap.size + 1, 8, none⟩ = some (.int .u16 0) := e1.at_ 8
    have xe1_9 : w7.cell? ⟨w.heap.size + 1, 9, none⟩ = some (.int .u32 0) := e1.at_ 9
    have xe1_10 : w7.cell? ⟨w.heap.size + 1, 10, none⟩ = some (.int .u16 0) := e1.at_ 10
    have ye1_0 : w7.frozen? ⟨w.heap.size + 1, 0, none⟩ = false := e1.free 0
    have ye1_1 : w7.frozen? ⟨w.heap.size + 1, 1, none⟩ = false := e1.free 1
    have ye1_2 : w7.frozen? ⟨w.heap.size + 1, 2, none⟩ = false := e1.free 2
    have ye1_3 : w7.frozen? ⟨w.heap.size + 1, 3, none⟩ = false := e1.free 3
    have ye1_4 : w7.frozen? ⟨w.heap.size + 1, 4, none⟩ = false := e1.free 4
    have ye1_5 : w7.frozen? ⟨w.heap.size + 1, 5, none⟩ = false := e1.free 5
    have ye1_6 : w7.frozen? ⟨w.heap.size + 1, 6, none⟩ = false := e1.free 6
    have ye1_7 : w7.frozen? ⟨w.heap.size + 1, 7, none⟩ = false := e1.free 7
    have ye1_8 : w7.frozen? ⟨w.heap.size + 1, 8, none⟩ = false := e1.free 8
    have ye1_9 : w7.frozen? ⟨w.heap.size + 1, 9, none⟩ = false := e1.free 9
    have ye1_10 : w7.frozen? ⟨w.heap.size + 1, 10, none⟩ = false := e1.free 10
    have d5 := hide e1; have l5 := hide (bstep L0.out b8)
    clear e1
    go_wp2_with fail
    have d5 := d5.out; have l5 := l5.out
    clear xn8_0 xn8_1 xn8_2 xn8_3 xn8_4 xn8_5 xn8_6 xn8_7 xn8_8 xn8_9 xn8_10 xe1_0 ye1_0 xe1_1 ye1_1 xe1_2 ye1_2 xe1_3 ye1_3 xe1_4 ye1_4 xe1_5 ye1_5 xe1_6 ye1_6 xe1_7 ye1_7 xe1_8 ye1_8 xe1_9 ye1_9 xe1_10 ye1_10
    have r5 := (Cells.put11 d5 (.int .i64 1) (.int .u8 (pr4 m1)) (.int .u32 (pxI m4)) (.int .i64 (pxB m4)) (.int .u32 (qxI m5)) (.int .i64 (qxB m5)) (.int .u32 (151587081 + m2)) (.int .u16 (4 + m3)) (.int .u16 (4 + m3 + m7 % 4)) (.int .u32 0) (.int .u16 0))
    have b5 := (Below.put11 l5 (b := w.heap.size + 1) (by first | exact Nat.le_refl _ | omega) (.int .i64 1) (.int .u8 (pr4 m1)) (.int .u32 (pxI m4)) (.int .i64 (pxB m4)) (.int .u32 (qxI m5)) (.int .i64 (qxB m5)) (.int .u32 (151587081 + m2)) (.int .u16 (4 + m3)) (.int .u16 (4 + m3 + m7 % 4)) (.int .u32 0) (.int .u16 0))
    have HR5 := hide r5; have HB5 := hide b5
    clear r5 b5 d5
    generalize (((((((((((w7.setCell ⟨w.heap.size + 1, 0, none⟩ (.int .i64 1)).setCell ⟨w.heap.size + 1, 1, none⟩ (.int .u8 (pr4 m1))).setCell ⟨w.heap.size + 1, 2, none⟩ (.int .u32 (pxI m4))).setCell ⟨w.heap.size + 1, 3, none⟩ (.int .i64 (pxB m4))).setCell ⟨w.heap.size + 1, 4, none⟩ (.int .u32 (qxI m5))).setCell ⟨w.heap.size + 1, 5, none⟩ (.int .i64 (qxB m5))).setCell ⟨w.heap.size + 1, 6, none⟩ (.int .u32 (151587081 + m2))).setCell ⟨w.heap.size + 1, 7, none⟩ (.int .u16 (4 + m3))).setCell ⟨w.heap.size + 1, 8, none⟩ (.int .u16 (4 + m3 + m7 % 4))).setCell ⟨w.heap.size + 1, 9, none⟩ (.int .u32 0)).setCell ⟨w.heap.size + 1, 10, none⟩ (.int .u16 0)) = W5 at *
    have r5 := HR5.out; have b5 := HB5.out
    clear HR5 HB5
    have xr5_0 : W5.cell? ⟨w.heap.size + 1, 0, none⟩ = some (.int .i64 1) := r5.at_ 0
    have xr5_1 : W5.cell? ⟨w.heap.size + 1, 1, none⟩ = some (.int .u8 (pr4 m1)) := r5.at_ 1
    have xr5_2 : W5.cell? ⟨w.heap.size + 1, 2, none⟩ = some (.int .u32 (pxI m4)) := r5.at_ 2
    have xr5_3 : W5.cell? ⟨w.heap.size + 1, 3, none⟩ = some (.int .i64 (pxB m4)) := r5.at_ 3
    have xr5_4 : W5.cell? ⟨w.heap.size + 1, 4, none⟩ = some (.int .u32 (qxI m5)) := r5.at_ 4
    have xr5_5 : W5.cell? ⟨w.heap.size + 1, 5, none⟩ = some (.int .i64 (qxB m5)) := r5.at_ 5
    have xr5_6 : W5.cell? ⟨w.heap.size + 1, 6, none⟩ = some (.int .u32 (151587081 + m2)) := r5.at_ 6
    have xr5_7 : W5.cell? ⟨w.heap.size + 1, 7, none⟩ = some (.int .u16 (4 + m3)) := r5.at_ 7
    have xr5_8 : W5.cell? ⟨w.heap.size + 1, 8, none⟩ = some (.int .u16 (4 + m3 + m7 % 4)) := r5.at_ 8
    have xr5_9 : W5.cell? ⟨w.heap.size + 1, 9, none⟩ = some (.int .u32 0) := r5.at_ 9
    have xr5_10 : W5.cell? ⟨w.heap.size + 1, 10, none⟩ = some (.int .u16 0) := r5.at_ 10
    (try simp only [Exit.inBlock, Exit.then]); refine bodyPost_ret (by simp [results, Try.results27, go_sem, *]; try rfl) rfl ?_
    rw [HR.out, if_neg hk, if_neg hk]
    exact ⟨rfl, b5⟩

end Go.Proofs.Ytbboajhdijabbaa
