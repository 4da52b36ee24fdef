/- A struct's cells, stored all. No program. -/
import Derived.Test.YtlmpoikjjidgiaaHeap2
set_option linter.unusedVariables false
namespace Go.Proofs.Ytlmpoikjjidgiaa
open Go.RowKit

theorem Cells.under {w w' : World} {n b : Nat} {cs : Array Value} {T : TypeId} (k : Below n w w') (h : Cells w b cs T) (hb : b < n) : Cells w' b cs T := (k.block b hb).trans h
/-- one proof for goals that are the same -/
theorem share {P R : Prop} (f : P → R) (p : P) : R := f p
theorem Cells.put4 {w : World} {b : Nat} {a0 a1 a2 a3 : Value} {T : TypeId} (h : Cells w b #[a0, a1, a2, a3] T) (v0 v1 v2 v3 : Value) : Cells ((((w.setCell ⟨b, 0, none⟩ v0).setCell ⟨b, 1, none⟩ v1).setCell ⟨b, 2, none⟩ v2).setCell ⟨b, 3, none⟩ v3) b #[v0, v1, v2, v3] T := by
  have h0 : Cells (w.setCell ⟨b, 0, none⟩ v0) b #[v0, a1, a2, a3] T := h.set_ 0 v0
  have h1 : Cells ((w.setCell ⟨b, 0, none⟩ v0).setCell ⟨b, 1, none⟩ v1) b #[v0, v1, a2, a3] T := h0.set_ 1 v1
  have h2 : Cells (((w.setCell ⟨b, 0, none⟩ v0).setCell ⟨b, 1, none⟩ v1).setCell ⟨b, 2, none⟩ v2) b #[v0, v1, v2, a3] T := h1.set_ 2 v2
  have h3 : Cells ((((w.setCell ⟨b, 0, none⟩ v0).setCell ⟨b, 1, none⟩ v1).setCell ⟨b, 2, none⟩ v2).setCell ⟨b, 3, none⟩ v3) b #[v0, v1, v2, v3] T := h2.set_ 3 v3
  exact h3
theorem Below.put4 {w w' : World} {n b : Nat} (h : Below n w w') (hb : n ≤ b) (v0 v1 v2 v3 : Value) : Below n w ((((w'.setCell ⟨b, 0, none⟩ v0).setCell ⟨b, 1, none⟩ v1).setCell ⟨b, 2, none⟩ v2).setCell ⟨b, 3, none⟩ v3) := (Below.setCell (Below.setCell (Below.setCell (Below.setCell h (p := ⟨b, 0, none⟩) hb v0) (p := ⟨b, 1, none⟩) hb v1) (p := ⟨b, 2, none⟩) hb v2) (p := ⟨b, 3, none⟩) hb v3)
theorem Cells.put8 {w : World} {b : Nat} {a0 a1 a2 a3 a4 a5 a6 a7 : Value} {T : TypeId} (h : Cells w b #[a0, a1, a2, a3, a4, a5, a6, a7] T) (v0 v1 v2 v3 v4 v5 v6 v7 : Value) : Cells ((((((((w.setCell ⟨b, 0, none⟩ v0).setCell ⟨b, 1, none⟩ v1).setCell ⟨b, 2, none⟩ v2).setCell ⟨b, 3, none⟩ v3).setCell ⟨b, 4, none⟩ v4).setCell ⟨b, 5, none⟩ v5).setCell ⟨b, 6, none⟩ v6).setCell ⟨b, 7, none⟩ v7) b #[v0, v1, v2, v3, v4, v5, v6, v7] T := by
  have h0 : Cells (w.setCell ⟨b, 0, none⟩ v0) b #[v0, a1, a2, a3, a4, a5, a6, a7] T := h.set_ 0 v0
  have h1 : Cells ((w.setCell ⟨b, 0, none⟩ v0).setCell ⟨b, 1, none⟩ v1) b #[v0, v1, a2, a3, a4, a5, a6, a7] T := h0.set_ 1 v1
  have h2 : Cells (((w.setCell ⟨b, 0, none⟩ v0).setCell ⟨b, 1, none⟩ v1).setCell ⟨b, 2, none⟩ v2) b #[v0, v1, v2, a3, a4, a5, a6, a7] T := h1.set_ 2 v2
  have h3 : Cells ((((w.setCell ⟨b, 0, none⟩ v0).setCell ⟨b, 1, none⟩ v1).setCell ⟨b, 2, none⟩ v2).setCell ⟨b, 3, none⟩ v3) b #[v0, v1, v2, v3, a4, a5, a6, a7] T := h2.set_ 3 v3
  have h4 : Cells (((((w.setCell ⟨b, 0, none⟩ v0).setCell ⟨b, 1, none⟩ v1).setCell ⟨b, 2, none⟩ v2).setCell ⟨b, 3, none⟩ v3).setCell ⟨b, 4, none⟩ v4) b #[v0, v1, v2, v3, v4, a5, a6, a7] T := h3.set_ 4 v4
  have h5 : Cells ((((((w.setCell ⟨b, 0, none⟩ v0).setCell ⟨b, 1, none⟩ v1).setCell ⟨b, 2, none⟩ v2).setCell ⟨b, 3, none⟩ v3).setCell ⟨b, 4, none⟩ v4).setCell ⟨b, 5, none⟩ v5) b #[v0, v1, v2, v3, v4, v5, a6, a7] T := h4.set_ 5 v5
  have h6 : Cells (((((((w.setCell ⟨b, 0, none⟩ v0).setCell ⟨b, 1, none⟩ v1).setCell ⟨b, 2, none⟩ v2).setCell ⟨b, 3, none⟩ v3).setCell ⟨b, 4, none⟩ v4).setCell ⟨b, 5, none⟩ v5).setCell ⟨b, 6, none⟩ v6) b #[v0, v1, v2, v3, v4, v5, v6, a7] T := h5.set_ 6 v6
  have h7 : Cells ((((((((w.setCell ⟨b, 0, none⟩ v0).setCell ⟨b, 1, none⟩ v1).setCell ⟨b, 2, none⟩ v2).setCell ⟨b, 3, none⟩ v3).setCell ⟨b, 4, none⟩ v4).setCell ⟨b, 5, none⟩ v5).setCell ⟨b, 6, none⟩ v6).setCell ⟨b, 7, none⟩ v7) b #[v0, v1, v2, v3, v4, v5, v6, v7] T := h6.set_ 7 v7
  exact h7
theorem Below.put8 {w w' : World} {n b : Nat} (h : Below n w w') (hb : n ≤ b) (v0 v1 v2 v3 v4 v5 v6 v7 : Value) : Below n w ((((((((w'.setCell ⟨b, 0, none⟩ v0).setCell ⟨b, 1, none⟩ v1).setCell ⟨b, 2, none⟩ v2).setCell ⟨b, 3, none⟩ v3).setCell ⟨b, 4, none⟩ v4).setCell ⟨b, 5, none⟩ v5).setCell ⟨b, 6, none⟩ v6).setCell ⟨b, 7, none⟩ v7) := (Below.setCell (Below.setCell (Below.setCell (Below.setCell (Below.setCell (Below.setCell (Below.setCell (Below.setCell h (p := ⟨b, 0, none⟩) hb v0) (p := ⟨b, 1, none⟩) hb v1) (p := ⟨b, 2, none⟩) hb v2) (p := ⟨b, 3, none⟩) hb v3) (p := ⟨b, 4, none⟩) hb v4) (p := ⟨b, 5, none⟩) hb v5) (p := ⟨b, 6, none⟩) hb v6) (p := ⟨b, 7, none⟩) hb v7)
theorem Cells.put10 {w : World} {b : Nat} {a0 a1 a2 a3 a4 a5 a6 a7 a8 a9 : Value} {T : TypeId} (h : Cells w b #[a0, a1, a2, a3, a4, a5, a6, a7, a8, a9] T) (v0 v1 v2 v3 v4 v5 v6 v7 v8 v9 : Value) : Cells ((((((((((w.setCell ⟨b, 0, none⟩ v0).setCell ⟨b, 1, none⟩ v1).setCell ⟨b, 2, none⟩ v2).setCell ⟨b, 3, none⟩ v3).setCell ⟨b, 4, none⟩ v4).setCell ⟨b, 5, none⟩ v5).setCell ⟨b, 6, none⟩ v6).setCell ⟨b, 7, none⟩ v7).setCell ⟨b, 8, none⟩ v8).setCell ⟨b, 9, none⟩ v9) b #[v0, v1, v2, v3, v4, v5, v6, v7, v8, v9] T := by
  have h0 : Cells (w.setCell ⟨b, 0, none⟩ v0) b #[v0, a1, a2, a3, a4, a5, a6, a7, a8, a9] T := h.set_ 0 v0
  have h1 : Cells ((w.setCell ⟨b, 0, none⟩ v0).setCell ⟨b, 1, none⟩ v1) b #[v0, v1, a2, a3, a4, a5, a6, a7, a8, a9] T := h0.set_ 1 v1
  have h2 : Cells (((w.setCell ⟨b, 0, none⟩ v0).setCell ⟨b, 1, none⟩ v1).setCell ⟨b, 2, none⟩ v2) b #[v0, v1, v2, a3, a4, a5, a6, a7, a8, a9] T := h1.set_ 2 v2
  have h3 : Cells ((((w.setCell ⟨b, 0, none⟩ v0).setCell ⟨b, 1, none⟩ v1).setCell ⟨b, 2, none⟩ v2).setCell ⟨b, 3, none⟩ v3) b #[v0, v1, v2, v3, a4, a5, a6, a7, a8, a9] T := h2.set_ 3 v3
  have h4 : Cells (((((w.setCell ⟨b, 0, none⟩ v0).setCell ⟨b, 1, none⟩ v1).setCell ⟨b, 2, none⟩ v2).setCell ⟨b, 3, none⟩ v3).setCell ⟨b, 4, none⟩ v4) b #[v0, v1, v2, v3, v4, a5, a6, a7, a8, a9] T := h3.set_ 4 v4
  have h5 : Cells ((((((w.setCell ⟨b, 0, none⟩ v0).setCell ⟨b, 1, none⟩ v1).setCell ⟨b, 2, none⟩ v2).setCell ⟨b, 3, none⟩ v3).setCell ⟨b, 4, none⟩ v4).setCell ⟨b, 5, none⟩ v5) b #[v0, v1, v2, v3, v4, v5, a6, a7, a8, a9] T := h4.set_ 5 v5
  have h6 : Cells (((((((w.setCell ⟨b, 0, none⟩ v0).setCell ⟨b, 1, none⟩ v1).setCell ⟨b, 2, none⟩ v2).setCell ⟨b, 3, none⟩ v3).setCell ⟨b, 4, none⟩ v4).setCell ⟨b, 5, none⟩ v5).setCell ⟨b, 6, none⟩ v6) b #[v0, v1, v2, v3, v4, v5, v6, a7, a8, a9] T := h5.set_ 6 v6
  have h7 : Cells ((((((((w.setCell ⟨b, 0, none⟩ v0).setCell ⟨b, 1, none⟩ v1).setCell ⟨b, 2, none⟩ v2).setCell ⟨b, 3, none⟩ v3).setCell ⟨b, 4, none⟩ v4).setCell ⟨b, 5, none⟩ v5).setCell ⟨b, 6, none⟩ v6).setCell ⟨b, 7, none⟩ v7) b #[v0, v1, v2, v3, v4, v5, v6, v7, a8, a9] T := h6.set_ 7 v7
  have h8 : Cells (((((((((w.setCell ⟨b, 0, none⟩ v0).setCell ⟨b, 1, none⟩ v1).setCell ⟨b, 2, none⟩ v2).setCell ⟨b, 3, none⟩ v3).setCell ⟨b, 4, none⟩ v4).setCell ⟨b, 5, none⟩ v5).setCell ⟨b, 6, none⟩ v6).setCell ⟨b, 7, none⟩ v7).setCell ⟨b, 8, none⟩ v8) b #[v0, v1, v2, v3, v4, v5, v6, v7, v8, a9] T := h7.set_ 8 v8
  have h9 : Cells ((((((((((w.setCell ⟨b, 0, none⟩ v0).setCell ⟨b, 1, none⟩ v1).setCell ⟨b, 2, none⟩ v2).setCell ⟨b, 3, none⟩ v3).setCell ⟨b, 4, none⟩ v4).setCell ⟨b, 5, none⟩ v5).setCell ⟨b, 6, none⟩ v6).setCell ⟨b, 7, none⟩ v7).setCell ⟨b, 8, none⟩ v8).setCell ⟨b, 9, none⟩ v9) b #[v0, v1, v2, v3, v4, v5, v6, v7, v8, v9] T := h8.set_ 9 v9
  exact h9
theorem Below.put10 {w w' : World} {n b : Nat} (h : Below n w w') (hb : n ≤ b) (v0 v1 v2 v3 v4 v5 v6 v7 v8 v9 : Value) : Below n w ((((((((((w'.setCell ⟨b, 0, none⟩ v0).setCell ⟨b, 1, none⟩ v1).setCell ⟨b, 2, none⟩ v2).setCell ⟨b, 3, none⟩ v3).setCell ⟨b, 4, none⟩ v4).setCell ⟨b, 5, none⟩ v5).setCell ⟨b, 6, none⟩ v6).setCell ⟨b, 7, none⟩ v7).setCell ⟨b, 8, none⟩ v8).setCell ⟨b, 9, none⟩ v9) := (Below.setCell (Below.setCell (Below.setCell (Below.setCell (Below.setCell (Below.setCell (Below.setCell (Below.setCell (Below.setCell (Below.setCell h (p := ⟨b, 0, none⟩) hb v0) (p := ⟨b, 1, none⟩) hb v1) (p := ⟨b, 2, none⟩) hb v2) (p := ⟨b, 3, none⟩) hb v3) (p := ⟨b, 4, none⟩) hb v4) (p := ⟨b, 5, none⟩) hb v5) (p := ⟨b, 6, none⟩) hb v6) (p := ⟨b, 7, none⟩) hb v7) (p := ⟨b, 8, none⟩) hb v8) (p := ⟨b, 9, none⟩) hb v9)
theorem Cells.far8 {w : World} {b b' : Nat} {cs : Array Value} {T : TypeId} (h : Cells w b cs T) (hb : b ≠ b') (v0 v1 v2 v3 v4 v5 v6 v7 : Value) : Cells ((((((((w.setCell ⟨b', 0, none⟩ v0).setCell ⟨b', 1, none⟩ v1).setCell ⟨b', 2, none⟩ v2).setCell ⟨b', 3, none⟩ v3).setCell ⟨b', 4, none⟩ v4).setCell ⟨b', 5, none⟩ v5).setCell ⟨b', 6, none⟩ v6).setCell ⟨b', 7, none⟩ v7) b cs T := (Cells.other (Cells.other (Cells.other (Cells.other (Cells.other (Cells.other (Cells.other (Cells.other h hb 0 v0) hb 1 v1) hb 2 v2) hb 3 v3) hb 4 v4) hb 5 v5) hb 6 v6) hb 7 v7)
theorem shareW {G A : World → Prop} {R : Prop} (f : (∀ X, A X → G X) → R) (p : ∀ X, A X → G X) : R := f p
theorem alloc_drewN (w : World) (o : Obj) (n : Nat) : (w.alloc o).drewN n = (w.drewN n).alloc o := rfl
end Go.Proofs.Ytlmpoikjjidgiaa
