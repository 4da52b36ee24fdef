/- Several texts of this claim, one behind the other. -/
import Derived.Test.YtilfcikhipadpaaDoorM2
import Derived.Test.YtilfcikhipadpaaDoorProg
import Derived.Test.YtilfcikhipadpaaDoorM1
import Derived.Maps.AppendAt
import Derived.Deep.Upon

section
/- A struct's cells, stored all. No program. -/
set_option linter.unusedVariables false
namespace Go.Proofs.YtilfcikhipadpaaDoor
open Go.RowKit

theorem Cells.under {w w' : World} {n b : Nat} {cs : Array Value} {T : TypeId} (k : Below n w w') (h : Cells w b cs T) (hb : b < n) : Cells w' b cs T := (k.block b hb).trans h
/-- one proof for goals that are the same -/
theorem share {P R : Prop} (f : P → R) (p : P) : R := f p
theorem Cells.put4 {w : World} {b : Nat} {a0 a1 a2 a3 : Value} {T : TypeId} (h : Cells w b #[a0, a1, a2, a3] T) (v0 v1 v2 v3 : Value) : Cells ((((w.setCell ⟨b, 0, none⟩ v0).setCell ⟨b, 1, none⟩ v1).setCell ⟨b, 2, none⟩ v2).setCell ⟨b, 3, none⟩ v3) b #[v0, v1, v2, v3] T := by
  have h0 : Cells (w.setCell ⟨b, 0, none⟩ v0) b #[v0, a1, a2, a3] T := h.set_ 0 v0
  have h1 : Cells ((w.setCell ⟨b, 0, none⟩ v0).setCell ⟨b, 1, none⟩ v1) b #[v0, v1, a2, a3] T := h0.set_ 1 v1
  have h2 : Cells (((w.setCell ⟨b, 0, none⟩ v0).setCell ⟨b, 1, none⟩ v1).setCell ⟨b, 2, none⟩ v2) b #[v0, v1, v2, a3] T := h1.set_ 2 v2
  have h3 : Cells ((((w.setCell ⟨b, 0, none⟩ v0).setCell ⟨b, 1, none⟩ v1).setCell ⟨b, 2, none⟩ v2).setCell ⟨b, 3, none⟩ v3) b #[v0, v1, v2, v3] T := h2.set_ 3 v3
  exact h3
theorem Below.put4 {w w' : World} {n b : Nat} (h : Below n w w') (hb : n ≤ b) (v0 v1 v2 v3 : Value) : Below n w ((((w'.setCell ⟨b, 0, none⟩ v0).setCell ⟨b, 1, none⟩ v1).setCell ⟨b, 2, none⟩ v2).setCell ⟨b, 3, none⟩ v3) := (Below.setCell (Below.setCell (Below.setCell (Below.setCell h (p := ⟨b, 0, none⟩) hb v0) (p := ⟨b, 1, none⟩) hb v1) (p := ⟨b, 2, none⟩) hb v2) (p := ⟨b, 3, none⟩) hb v3)
theorem Cells.put8 {w : World} {b : Nat} {a0 a1 a2 a3 a4 a5 a6 a7 : Value} {T : TypeId} (h : Cells w b #[a0, a1, a2, a3, a4, a5, a6, a7] T) (v0 v1 v2 v3 v4 v5 v6 v7 : Value) : Cells ((((((((w.setCell ⟨b, 0, none⟩ v0).setCell ⟨b, 1, none⟩ v1).setCell ⟨b, 2, none⟩ v2).setCell ⟨b, 3, none⟩ v3).setCell ⟨b, 4, none⟩ v4).setCell ⟨b, 5, none⟩ v5).setCell ⟨b, 6, none⟩ v6).setCell ⟨b, 7, none⟩ v7) b #[v0, v1, v2, v3, v4, v5, v6, v7] T := by
  have h0 : Cells (w.setCell ⟨b, 0, none⟩ v0) b #[v0, a1, a2, a3, a4, a5, a6, a7] T := h.set_ 0 v0
  have h1 : Cells ((w.setCell ⟨b, 0, none⟩ v0).setCell ⟨b, 1, none⟩ v1) b #[v0, v1, a2, a3, a4, a5, a6, a7] T := h0.set_ 1 v1
  have h2 : Cells (((w.setCell ⟨b, 0, none⟩ v0).setCell ⟨b, 1, none⟩ v1).setCell ⟨b, 2, none⟩ v2) b #[v0, v1, v2, a3, a4, a5, a6, a7] T := h1.set_ 2 v2
  have h3 : Cells ((((w.setCell ⟨b, 0, none⟩ v0).setCell ⟨b, 1, none⟩ v1).setCell ⟨b, 2, none⟩ v2).setCell ⟨b, 3, none⟩ v3) b #[v0, v1, v2, v3, a4, a5, a6, a7] T := h2.set_ 3 v3
  have h4 : Cells (((((w.setCell ⟨b, 0, none⟩ v0).setCell ⟨b, 1, none⟩ v1).setCell ⟨b, 2, none⟩ v2).setCell ⟨b, 3, none⟩ v3).setCell ⟨b, 4, none⟩ v4) b #[v0, v1, v2, v3, v4, a5, a6, a7] T := h3.set_ 4 v4
  have h5 : Cells ((((((w.setCell ⟨b, 0, none⟩ v0).setCell ⟨b, 1, none⟩ v1).setCell ⟨b, 2, none⟩ v2).setCell ⟨b, 3, none⟩ v3).setCell ⟨b, 4, none⟩ v4).setCell ⟨b, 5, none⟩ v5) b #[v0, v1, v2, v3, v4, v5, a6, a7] T := h4.set_ 5 v5
  have h6 : Cells (((((((w.setCell ⟨b, 0, none⟩ v0).setCell ⟨b, 1, none⟩ v1).setCell ⟨b, 2, none⟩ v2).setCell ⟨b, 3, none⟩ v3).setCell ⟨b, 4, none⟩ v4).setCell ⟨b, 5, none⟩ v5).setCell ⟨b, 6, none⟩ v6) b #[v0, v1, v2, v3, v4, v5, v6, a7] T := h5.set_ 6 v6
  have h7 : Cells ((((((((w.setCell ⟨b, 0, none⟩ v0).setCell ⟨b, 1, none⟩ v1).setCell ⟨b, 2, none⟩ v2).setCell ⟨b, 3, none⟩ v3).setCell ⟨b, 4, none⟩ v4).setCell ⟨b, 5, none⟩ v5).setCell ⟨b, 6, none⟩ v6).setCell ⟨b, 7, none⟩ v7) b #[v0, v1, v2, v3, v4, v5, v6, v7] T := h6.set_ 7 v7
  exact h7
theorem Below.put8 {w w' : World} {n b : Nat} (h : Below n w w') (hb : n ≤ b) (v0 v1 v2 v3 v4 v5 v6 v7 : Value) : Below n w ((((((((w'.setCell ⟨b, 0, none⟩ v0).setCell ⟨b, 1, none⟩ v1).setCell ⟨b, 2, none⟩ v2).setCell ⟨b, 3, none⟩ v3).setCell ⟨b, 4, none⟩ v4).setCell ⟨b, 5, none⟩ v5).setCell ⟨b, 6, none⟩ v6).setCell ⟨b, 7, none⟩ v7) := (Below.setCell (Below.setCell (Below.setCell (Below.setCell (Below.setCell (Below.setCell (Below.setCell (Below.setCell h (p := ⟨b, 0, none⟩) hb v0) (p := ⟨b, 1, none⟩) hb v1) (p := ⟨b, 2, none⟩) hb v2) (p := ⟨b, 3, none⟩) hb v3) (p := ⟨b, 4, none⟩) hb v4) (p := ⟨b, 5, none⟩) hb v5) (p := ⟨b, 6, none⟩) hb v6) (p := ⟨b, 7, none⟩) hb v7)
theorem Cells.put10 {w : World} {b : Nat} {a0 a1 a2 a3 a4 a5 a6 a7 a8 a9 : Value} {T : TypeId} (h : Cells w b #[a0, a1, a2, a3, a4, a5, a6, a7, a8, a9] T) (v0 v1 v2 v3 v4 v5 v6 v7 v8 v9 : Value) : Cells ((((((((((w.setCell ⟨b, 0, none⟩ v0).setCell ⟨b, 1, none⟩ v1).setCell ⟨b, 2, none⟩ v2).setCell ⟨b, 3, none⟩ v3).setCell ⟨b, 4, none⟩ v4).setCell ⟨b, 5, none⟩ v5).setCell ⟨b, 6, none⟩ v6).setCell ⟨b, 7, none⟩ v7).setCell ⟨b, 8, none⟩ v8).setCell ⟨b, 9, none⟩ v9) b #[v0, v1, v2, v3, v4, v5, v6, v7, v8, v9] T := by
  have h0 : Cells (w.setCell ⟨b, 0, none⟩ v0) b #[v0, a1, a2, a3, a4, a5, a6, a7, a8, a9] T := h.set_ 0 v0
  have h1 : Cells ((w.setCell ⟨b, 0, none⟩ v0).setCell ⟨b, 1, none⟩ v1) b #[v0, v1, a2, a3, a4, a5, a6, a7, a8, a9] T := h0.set_ 1 v1
  have h2 : Cells (((w.setCell ⟨b, 0, none⟩ v0).setCell ⟨b, 1, none⟩ v1).setCell ⟨b, 2, none⟩ v2) b #[v0, v1, v2, a3, a4, a5, a6, a7, a8, a9] T := h1.set_ 2 v2
  have h3 : Cells ((((w.setCell ⟨b, 0, none⟩ v0).setCell ⟨b, 1, none⟩ v1).setCell ⟨b, 2, none⟩ v2).setCell ⟨b, 3, none⟩ v3) b #[v0, v1, v2, v3, a4, a5, a6, a7, a8, a9] T := h2.set_ 3 v3
  have h4 : Cells (((((w.setCell ⟨b, 0, none⟩ v0).setCell ⟨b, 1, none⟩ v1).setCell ⟨b, 2, none⟩ v2).setCell ⟨b, 3, none⟩ v3).setCell ⟨b, 4, none⟩ v4) b #[v0, v1, v2, v3, v4, a5, a6, a7, a8, a9] T := h3.set_ 4 v4
  have h5 : Cells ((((((w.setCell ⟨b, 0, none⟩ v0).setCell ⟨b, 1, none⟩ v1).setCell ⟨b, 2, none⟩ v2).setCell ⟨b, 3, none⟩ v3).setCell ⟨b, 4, none⟩ v4).setCell ⟨b, 5, none⟩ v5) b #[v0, v1, v2, v3, v4, v5, a6, a7, a8, a9] T := h4.set_ 5 v5
  have h6 : Cells (((((((w.setCell ⟨b, 0, none⟩ v0).setCell ⟨b, 1, none⟩ v1).setCell ⟨b, 2, none⟩ v2).setCell ⟨b, 3, none⟩ v3).setCell ⟨b, 4, none⟩ v4).setCell ⟨b, 5, none⟩ v5).setCell ⟨b, 6, none⟩ v6) b #[v0, v1, v2, v3, v4, v5, v6, a7, a8, a9] T := h5.set_ 6 v6
  have h7 : Cells ((((((((w.setCell ⟨b, 0, none⟩ v0).setCell ⟨b, 1, none⟩ v1).setCell ⟨b, 2, none⟩ v2).setCell ⟨b, 3, none⟩ v3).setCell ⟨b, 4, none⟩ v4).setCell ⟨b, 5, none⟩ v5).setCell ⟨b, 6, none⟩ v6).setCell ⟨b, 7, none⟩ v7) b #[v0, v1, v2, v3, v4, v5, v6, v7, a8, a9] T := h6.set_ 7 v7
  have h8 : Cells (((((((((w.setCell ⟨b, 0, none⟩ v0).setCell ⟨b, 1, none⟩ v1).setCell ⟨b, 2, none⟩ v2).setCell ⟨b, 3, none⟩ v3).setCell ⟨b, 4, none⟩ v4).setCell ⟨b, 5, none⟩ v5).setCell ⟨b, 6, none⟩ v6).setCell ⟨b, 7, none⟩ v7).setCell ⟨b, 8, none⟩ v8) b #[v0, v1, v2, v3, v4, v5, v6, v7, v8, a9] T := h7.set_ 8 v8
  have h9 : Cells ((((((((((w.setCell ⟨b, 0, none⟩ v0).setCell ⟨b, 1, none⟩ v1).setCell ⟨b, 2, none⟩ v2).setCell ⟨b, 3, none⟩ v3).setCell ⟨b, 4, none⟩ v4).setCell ⟨b, 5, none⟩ v5).setCell ⟨b, 6, none⟩ v6).setCell ⟨b, 7, none⟩ v7).setCell ⟨b, 8, none⟩ v8).setCell ⟨b, 9, none⟩ v9) b #[v0, v1, v2, v3, v4, v5, v6, v7, v8, v9] T := h8.set_ 9 v9
  exact h9
theorem Below.put10 {w w' : World} {n b : Nat} (h : Below n w w') (hb : n ≤ b) (v0 v1 v2 v3 v4 v5 v6 v7 v8 v9 : Value) : Below n w ((((((((((w'.setCell ⟨b, 0, none⟩ v0).setCell ⟨b, 1, none⟩ v1).setCell ⟨b, 2, none⟩ v2).setCell ⟨b, 3, none⟩ v3).setCell ⟨b, 4, none⟩ v4).setCell ⟨b, 5, none⟩ v5).setCell ⟨b, 6, none⟩ v6).setCell ⟨b, 7, none⟩ v7).setCell ⟨b, 8, none⟩ v8).setCell ⟨b, 9, none⟩ v9) := (Below.setCell (Below.setCell (Below.setCell (Below.setCell (Below.setCell (Below.setCell (Below.setCell (Below.setCell (Below.setCell (Below.setCell h (p := ⟨b, 0, none⟩) hb v0) (p := ⟨b, 1, none⟩) hb v1) (p := ⟨b, 2, none⟩) hb v2) (p := ⟨b, 3, none⟩) hb v3) (p := ⟨b, 4, none⟩) hb v4) (p := ⟨b, 5, none⟩) hb v5) (p := ⟨b, 6, none⟩) hb v6) (p := ⟨b, 7, none⟩) hb v7) (p := ⟨b, 8, none⟩) hb v8) (p := ⟨b, 9, none⟩) hb v9)
theorem Cells.far8 {w : World} {b b' : Nat} {cs : Array Value} {T : TypeId} (h : Cells w b cs T) (hb : b ≠ b') (v0 v1 v2 v3 v4 v5 v6 v7 : Value) : Cells ((((((((w.setCell ⟨b', 0, none⟩ v0).setCell ⟨b', 1, none⟩ v1).setCell ⟨b', 2, none⟩ v2).setCell ⟨b', 3, none⟩ v3).setCell ⟨b', 4, none⟩ v4).setCell ⟨b', 5, none⟩ v5).setCell ⟨b', 6, none⟩ v6).setCell ⟨b', 7, none⟩ v7) b cs T := (Cells.other (Cells.other (Cells.other (Cells.other (Cells.other (Cells.other (Cells.other (Cells.other h hb 0 v0) hb 1 v1) hb 2 v2) hb 3 v3) hb 4 v4) hb 5 v5) hb 6 v6) hb 7 v7)
theorem shareW {G A : World → Prop} {R : Prop} (f : (∀ X, A X → G X) → R) (p : ∀ X, A X → G X) : R := f p
theorem alloc_drewN (w : World) (o : Obj) (n : Nat) : (w.alloc o).drewN n = (w.drewN n).alloc o := rfl
end Go.Proofs.YtilfcikhipadpaaDoor
end

section
/- Rows of structs (of any kind): a slice of one's own, append. -/
set_option linter.unusedVariables false
set_option linter.unusedSimpArgs false
namespace Go.Proofs.YtilfcikhipadpaaDoor
open Go.RowKit Go.Lib
attribute [local go_sem] Oper.semAt_some

/-- a kind of rows: how many cells, the element's type, the slice's, the zero value, the cells -/
structure RowK (α : Type) where
  k : Nat
  T : TypeId
  S : TypeId
  bytes : Nat
  z : Value
  cells : α → Array Value
  size : ∀ a, (cells a).size = k
  one : ∀ a, ∀ v ∈ (cells a).toList, v.oneCell' = true
  pos : 0 < k
  tS : Tryd.prog.underlying S = some (.slice T)
  info : (Tryd.prog.info? T).map (fun i => (i.zero, i.size, i.bytes)) = some (some z, k, bytes)
  zs : z.cells.size = k
  few : bytes ≤ 1024
namespace RowK
variable {α : Type} (K : RowK α)
theorem parts : ∃ i, Tryd.prog.info? K.T = some i ∧ i.zero = some K.z ∧ i.size = K.k ∧ i.bytes = K.bytes := by
  have h := K.info
  cases hq : Tryd.prog.info? K.T with
  | none => rw [hq] at h; cases h
  | some i =>
    rw [hq] at h
    simp only [Option.map_some, Option.some.injEq, Prod.mk.injEq] at h
    exact ⟨i, rfl, h.1, h.2.1, h.2.2⟩
theorem len (a : α) : (K.cells a).toList.length = K.k := by rw [Array.length_toList]; exact K.size a
/-- the cells of some, one behind the other -/
def all (l : List α) : List Value := l.flatMap fun r => (K.cells r).toList
theorem all_length (l : List α) : (K.all l).length = l.length * K.k := by
  induction l with
  | nil => simp [all]
  | cons a t ih =>
    have e : K.all (a :: t) = (K.cells a).toList ++ K.all t := rfl
    rw [e, List.length_append, K.len, ih, List.length_cons, Nat.add_mul, Nat.one_mul, Nat.add_comm]
theorem all_append (a b : List α) : K.all (a ++ b) = K.all a ++ K.all b := by simp [all]
theorem all_drop (l : List α) (n : Nat) : (K.all l).drop (n * K.k) = K.all (l.drop n) := by
  induction l generalizing n with
  | nil => simp [all]
  | cons a t ih =>
    cases n with
    | zero => simp
    | succ n =>
      have e : K.all (a :: t) = (K.cells a).toList ++ K.all t := rfl
      rw [e, List.drop_append, K.len, List.drop_of_length_le (by rw [K.len, Nat.add_mul]; omega), List.drop_succ_cons, List.nil_append, ← ih n]
      congr 1
      rw [Nat.add_mul, Nat.one_mul]; omega
theorem all_at {l : List α} {j i : Nat} (h : j < l.length) (hi : i < K.k) : (K.all l)[j * K.k + i]? = (K.cells l[j]).toList[i]? := by
  have h1 : (K.all l)[j * K.k + i]? = ((K.all l).drop (j * K.k))[i]? := by rw [List.getElem?_drop]
  rw [h1, all_drop, List.drop_eq_getElem_cons h]
  have e : K.all (l[j] :: l.drop (j + 1)) = (K.cells l[j]).toList ++ K.all (l.drop (j + 1)) := rfl
  rw [e, List.getElem?_append_left (by rw [K.len]; exact hi)]
theorem ones (l : List α) : ∀ v ∈ K.all l, v.oneCell' = true := fun v hv => by
  obtain ⟨r, _, hr⟩ := List.mem_flatMap.1 hv
  exact K.one r v hr

/-- a slice of one's own -/
def Own (W : World) (v : Value) (l : List α) : Prop := W.ownsRow 0 K.T K.k v l.length (K.all l)
variable {K}
theorem Own.nil (W : World) : K.Own W (.slice none 0 0) [] := ⟨by simp [all], Or.inl ⟨rfl, rfl⟩⟩
theorem Own.row {W : World} {v : Value} {l : List α} (h : K.Own W v l) {g : Nat} (k : v.ownBlock = some g) : g < W.heap.size := (World.ownsRow.lt h g k).2
theorem Own.same {W W' : World} {v : Value} {l : List α} (h : K.Own W v l) (k : ∀ g, v.ownBlock = some g → W'.heap[g]? = W.heap[g]?) : K.Own W' v l := by
  refine ⟨h.1, ?_⟩
  rcases h.2 with hn | ⟨g, cap, cur, hv, hb, hg, r⟩
  · exact Or.inl hn
  · exact Or.inr ⟨g, cap, cur, hv, hb, (k g (by rw [hv]; rfl)).trans hg, r⟩
theorem Own.below {W W' : World} {v : Value} {l : List α} (h : K.Own W v l) (k : Below W.heap.size W W') : K.Own W' v l := h.same fun g hg => k.block g (h.row hg)
theorem Own.slice {W : World} {v : Value} {l : List α} (h : K.Own W v l) : ∃ A c, v = .slice A l.length c ∧ l.length ≤ c := by
  rcases h.2 with ⟨h1, h2⟩ | ⟨g, c, cur, h1, _, _, h3, _⟩
  · exact ⟨none, 0, by rw [h1, h2], by rw [h2]; exact Nat.le_refl _⟩
  · exact ⟨_, c, h1, h3⟩
theorem Own.cell {W : World} {v : Value} {l : List α} (h : K.Own W v l) (hn : 0 < l.length) : ∃ g c, v = .slice (some ⟨g, 0, none⟩) l.length c ∧ g < W.heap.size ∧ l.length ≤ c ∧ c ≤ maxLen ∧ ∀ i u, (K.all l)[i]? = some u → W.cell? ⟨g, i, none⟩ = some u := by
  rcases h.2 with ⟨_, h0⟩ | ⟨g, cap, cur, hv, hb, hg, h1, h2, h3, h4⟩
  · omega
  · refine ⟨g, cap, hv, (Array.getElem?_eq_some_iff.1 hg).1, h1, h2, fun i u hu => ?_⟩
    rw [Lib.cell_of_heap hg]
    rw [← h4, List.getElem?_take] at hu
    split at hu
    · simpa using hu
    · cases hu
theorem Own.slot {W : World} {g n c : Nat} {l : List α} (h : K.Own W (.slice (some ⟨g, 0, none⟩) n c) l) {j : Nat} (hj : j < l.length) {r : α} (hr : l[j]? = some r) {i : Nat} {u : Value} (hi : i < K.k) (hu : (K.cells r).toList[i]? = some u) : W.cell? ⟨g, j * K.k + i, none⟩ = some u := by
  obtain ⟨g', c', hv, _, _, _, hc⟩ := h.cell (by omega)
  cases hv
  refine hc _ _ ?_
  rw [K.all_at hj hi, (List.getElem?_eq_some_iff.1 hr).2]
  exact hu

/-- a slice that is read: none, or rows from an address on -/
def Read (K : RowK α) (W : World) (x : Value) (m : List α) : Prop := (x = .slice none 0 0 ∧ m = []) ∨ ∃ a c, x = .slice (some a) m.length c ∧ ∀ j u, (K.all m)[j]? = some u → W.cell? (a.add j) = some u
theorem Read.one {W : World} {vb : Nat} {r : α} (h : Cells W vb (K.cells r) K.T) : K.Read W (.slice (some ⟨vb, 0, none⟩) 1 1) [r] :=
  Or.inr ⟨_, _, rfl, fun j u hu => by
    have e : K.all [r] = (K.cells r).toList := by simp [all]
    rw [e] at hu
    rw [Addr.add_lit, Nat.zero_add, Lib.cell_of_heap h]
    simpa using hu⟩
theorem Read.of {W : World} {v : Value} {l : List α} (h : K.Own W v l) : K.Read W v l := by
  by_cases hl : 0 < l.length
  · obtain ⟨g, c, hv, _, _, _, hc⟩ := h.cell hl
    exact Or.inr ⟨_, c, hv, fun j u hu => by rw [Addr.add_lit, Nat.zero_add]; exact hc j u hu⟩
  · have h0 : l = [] := List.length_eq_zero_iff.1 (by omega)
    subst h0
    rcases h.2 with ⟨h1, _⟩ | ⟨g, c, cur, hv, _⟩
    · exact Or.inl ⟨h1, rfl⟩
    · exact Or.inr ⟨_, c, hv, fun j u hu => by simp [all] at hu⟩

theorem runApp (W : World) (v x : Value) (l m : List α) (hv : K.Own W v l) (hx : K.Read W x m) (hn : l.length + m.length ≤ 2000) (ty : TypeId) :
    ∃ A c W', (Builtin.append_ #[K.S, K.S] ty #[v, x]).run Tryd.prog W = .ok (.slice A (l ++ m).length c) W' ∧ K.Own W' (.slice A (l ++ m).length c) (l ++ m) ∧ W.grownBy W' v.ownBlock ∧ ((Value.slice A (l ++ m).length c).ownBlock = v.ownBlock ∨ (Value.slice A (l ++ m).length c).ownBlock = some W.heap.size) := by
  obtain ⟨i0, hi0, hz0, hzs, hzb⟩ := K.parts
  rcases hx with ⟨rfl, rfl⟩ | ⟨a, c, rfl, hc⟩
  · have hsrc : Src Tryd.prog i0.size K.S (.slice none 0 0) 0 [] W := Src.ofNil W K.tS 0
    obtain ⟨A, c, hv', hle⟩ := hv.slice
    subst hv'
    refine ⟨A, c, W, ?_, ?_, ⟨rfl, rfl, rfl, Nat.le_refl _, fun _ _ _ => rfl⟩, ?_⟩
    · rw [List.append_nil]; exact run_append_nothing W K.S K.S ty K.T i0 K.tS hi0 A _ c hle _ hsrc
    · rw [List.append_nil]; exact hv
    · rw [List.append_nil]; exact Or.inl rfl
  · have hb : (l.length + m.length) * K.bytes ≤ 140737488355328 := Nat.le_trans (Nat.mul_le_mul hn K.few) (by decide)
    obtain ⟨v', W', h1, h2, h3, _, h5⟩ := run_append_own_at (w := W) 0 K.S ty K.T i0 K.z K.k K.bytes K.tS hi0 hz0 hzs hzb K.zs K.pos v l.length (K.all l) hv a m.length c (K.all m) (K.all_length m) hc (K.ones m) (by unfold maxLen; omega) hb (Nat.zero_le _)
    have hr : K.Own W' v' (l ++ m) := by
      unfold Own
      rw [all_append, List.length_append]
      exact h2
    obtain ⟨A', c', rfl, _⟩ := hr.slice
    exact ⟨A', c', W', h1, hr, h3, h5⟩

/-- append, as an operation -/
theorem wp_app {o : Oper} {a : Act} {w : World} {P : Act → World → Prop} {Q : Exit → Act → World → Prop}
    (d x : Operand) (hop : o.op = Op.call { callee := Callee.builtin Builtin.append, args := #[d, x], argTypes := #[K.S, K.S] })
    (v u : Value) (hd : a.eval d = v) (hx : a.eval x = u) (l m : List α) (hv : K.Own w v l) (hu : K.Read w u m) (hn : l.length + m.length ≤ 2000)
    (hK : ∀ A c w', K.Own w' (.slice A (l ++ m).length c) (l ++ m) → w.grownBy w' v.ownBlock → ((Value.slice A (l ++ m).length c).ownBlock = v.ownBlock ∨ (Value.slice A (l ++ m).length c).ownBlock = some w.heap.size) → P (a.put o.dst (.slice A (l ++ m).length c)) w') :
    Oper.wp Tryd.prog o a w P Q := by
  obtain ⟨A, c, w', hr, h1, h2, h3⟩ := runApp w v u l m hv hu hn o.type
  unfold Oper.wp
  simp [execOp, hop, resolve, invoke, builtin, hd, hx, hr, Result.andThen]
  have e : l.length + m.length = (l ++ m).length := List.length_append.symm
  rw [e]
  exact hK A c w' h1 h2 h3
/-- append, as a step of a region that draws -/
theorem step_app {ops : Array Oper} {o : Oper} {a : Act} {w : World} {P : Act → World → Prop} {Q : Exit → Act → World → Prop} {E : Prop}
    (hg : o.guard = none) (d x : Operand) (hop : o.op = Op.call { callee := Callee.builtin Builtin.append, args := #[d, x], argTypes := #[K.S, K.S] })
    (v u : Value) (hd : a.eval d = v) (hx : a.eval x = u) (l m : List α) (hv : K.Own w v l) (hu : K.Read w u m) (hn : l.length + m.length ≤ 2000)
    (hK : ∀ A c w', K.Own w' (.slice A (l ++ m).length c) (l ++ m) → w.grownBy w' v.ownBlock → ((Value.slice A (l ++ m).length c).ownBlock = v.ownBlock ∨ (Value.slice A (l ++ m).length c).ownBlock = some w.heap.size) → P (a.put o.dst (.slice A (l ++ m).length c)) w') :
    if Region.wanted o (yielded ops a.tmps) = true then Oper.wp Tryd.prog o a w P Q else E := by
  rw [if_pos (show Region.wanted o (yielded ops a.tmps) = true by simp [Region.wanted, hg])]
  exact wp_app d x hop v u hd hx l m hv hu hn hK
end RowK
end Go.Proofs.YtilfcikhipadpaaDoor
end
