/- Blocks that are known whole, rows of the call's own: words for the walks. No program. -/
import Derived.Test.YtedfdphapcanoaaGreatDoorNum
set_option linter.unusedVariables false
namespace Go.Proofs.YtedfdphapcanoaaGreatDoor
open Go.RowKit

/-- a block that holds these cells, none of them frozen -/
def Cells (w : World) (b : Nat) (cs : Array Value) (T : TypeId) : Prop := w.heap[b]? = some (.cells cs T (0, 0))
theorem Cells.new (w : World) (cs : Array Value) (T : TypeId) : Cells (w.alloc (.cells cs T)) w.heap.size cs T := heap_alloc_new w _
theorem Cells.below {w w' : World} {b : Nat} {cs : Array Value} {T : TypeId} (k : Below w.heap.size w w') (h : Cells w b cs T) : Cells w' b cs T := (k.block b (Array.getElem?_eq_some_iff.1 h).1).trans h
theorem Cells.at_ {w : World} {b : Nat} {cs : Array Value} {T : TypeId} (h : Cells w b cs T) (j : Nat) : w.cell? ⟨b, j, none⟩ = cs[j]? := Lib.cell_of_heap h j
theorem Cells.free {w : World} {b : Nat} {cs : Array Value} {T : TypeId} (h : Cells w b cs T) (j : Nat) : w.frozen? ⟨b, j, none⟩ = false := by simp [World.frozen?, show w.heap[b]? = _ from h]
theorem Cells.four {w : World} {b : Nat} {v0 v1 v2 v3 : Value} {T : TypeId} (h : Cells w b #[v0, v1, v2, v3] T) :
    (w.cell? ⟨b, 0, none⟩ = some v0 ∧ w.cell? ⟨b, 1, none⟩ = some v1 ∧ w.cell? ⟨b, 2, none⟩ = some v2 ∧ w.cell? ⟨b, 3, none⟩ = some v3) ∧
    (w.frozen? ⟨b, 0, none⟩ = false ∧ w.frozen? ⟨b, 1, none⟩ = false ∧ w.frozen? ⟨b, 2, none⟩ = false ∧ w.frozen? ⟨b, 3, none⟩ = false) :=
  ⟨⟨h.at_ 0, h.at_ 1, h.at_ 2, h.at_ 3⟩, h.free 0, h.free 1, h.free 2, h.free 3⟩

theorem Cells.set_ {w : World} {b : Nat} {cs : Array Value} {T : TypeId} (h : Cells w b cs T) (j : Nat) (v : Value) : Cells (w.setCell ⟨b, j, none⟩ v) b (cs.setIfInBounds j v) T := by
  have hb : w.heap[b]? = some (.cells cs T (0, 0)) := h
  unfold Cells
  simp [World.setCell, Array.getElem?_modify, hb]

theorem Cells.lt {w : World} {b : Nat} {cs : Array Value} {T : TypeId} (h : Cells w b cs T) : b < w.heap.size := (Array.getElem?_eq_some_iff.1 h).1
theorem Cells.ne {w : World} {b : Nat} {cs : Array Value} {T : TypeId} (h : Cells w b cs T) : b ≠ w.heap.size := Nat.ne_of_lt h.lt
theorem Cells.other {w : World} {b : Nat} {cs : Array Value} {T : TypeId} (h : Cells w b cs T) {b' : Nat} (hb : b ≠ b') (j : Nat) (v : Value) : Cells (w.setCell ⟨b', j, none⟩ v) b cs T :=
  (Below.heap_setCell w ⟨b', j, none⟩ v b hb).trans h
theorem Cells.drew {w : World} {b : Nat} {cs : Array Value} {T : TypeId} (h : Cells w b cs T) : Cells w.drew b cs T := h
theorem Cells.alloc {w : World} {b : Nat} {cs : Array Value} {T : TypeId} (h : Cells w b cs T) (o : Obj) : Cells (w.alloc o) b cs T := Cells.below ((Below.refl _ _).alloc (Nat.le_refl _) o) h

theorem row_of_owns {w : World} {base e : Nat} {A : Option Addr} {n c : Nat} {xs : List Value} (h : w.ownsRow base e 1 (.slice A n c) n xs) : Row w w.heap.size A n xs := by
  obtain ⟨hl, hv | ⟨g, cap, cur, hv, hb, hcell, hn, hc, hz, ht⟩⟩ := h
  · obtain ⟨_, rfl⟩ := hv
    obtain rfl : xs = [] := List.eq_nil_of_length_eq_zero (by simpa using hl)
    exact Row.nil
  · injection hv with h1 h2 h3
    subst h1
    refine ⟨by simpa using hl, fun _ => ⟨g, 0, rfl, (Array.getElem?_eq_some_iff.1 hcell).1, fun j u hu => ?_⟩⟩
    rw [Lib.cell_of_heap hcell, Nat.zero_add, ← Array.getElem?_toList]
    rw [← ht] at hu
    have hj : j < n * 1 := by
      have := (List.getElem?_eq_some_iff.1 hu).1
      simp at this; omega
    rwa [List.getElem?_take_of_lt hj] at hu
theorem owns_fresh (w : World) (base e : Nat) (v : Value) (hb : base ≤ w.heap.size) : (w.alloc (.cells #[v] e)).ownsRow base e 1 (.slice (some ⟨w.heap.size, 0, none⟩) 1 1) 1 [v] :=
  ⟨rfl, .inr ⟨w.heap.size, 1, #[v], rfl, hb, heap_alloc_new w _, by omega, by unfold maxLen; omega, rfl, rfl⟩⟩
theorem owns_slice {w : World} {base e : Nat} {v : Value} {n : Nat} {xs : List Value} (h : w.ownsRow base e 1 v n xs) (hn : 0 < n) : ∃ A c, v = .slice A n c := by
  rcases h.2 with ⟨_, h0⟩ | ⟨g, cap, cur, hv, _⟩
  · omega
  · exact ⟨_, _, hv⟩

end Go.Proofs.YtedfdphapcanoaaGreatDoor
