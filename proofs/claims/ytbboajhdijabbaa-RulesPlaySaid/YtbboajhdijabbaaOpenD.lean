/- rules: a slice of drafts, as an argument. -/
import Derived.Test.YtbboajhdijabbaaLeaf
import Derived.Test.YtbboajhdijabbaaRlaw5
import Derived.Deep.Slices
set_option linter.unusedVariables false
set_option linter.unusedSimpArgs false
namespace Go.Proofs.Ytbboajhdijabbaa
open Go.RowKit Go.Lib Go.ChangeShapes Go.WideShapes Go.Deep

theorem choose_list {α : Type} {P : Nat → α → Prop} : ∀ n, (∀ i, i < n → ∃ x, P i x) → ∃ l : List α, l.length = n ∧ ∀ i (hi : i < l.length), P i l[i]
  | 0, _ => ⟨[], rfl, fun i hi => absurd hi (Nat.not_lt_zero i)⟩
  | n + 1, h => by
    obtain ⟨l, h1, h2⟩ := choose_list n fun i hi => h i (by omega)
    obtain ⟨x, hx⟩ := h n (by omega)
    refine ⟨l ++ [x], by simp [h1], fun i hi => ?_⟩
    by_cases e : i < l.length
    · rw [List.getElem_append_left e]; exact h2 i e
    · have e' : i = n := by simp at hi; omega
      subst e'
      rw [List.getElem_append_right (by omega)]
      simpa [h1] using hx

theorem open_drafts {H : Type} {enc : TypeId × Value → H} {W : World} {base : Nat} {spare : Nat → Bool} {held : Bool} {fuel : Nat} {a : Option Addr} {len cap : Nat} {x : DataW H × List MemPlace}
    (h : DataW.trod enc Try.prog W base spare held fuel 43 (Value.slice a len cap).cells.toList = some x) :
    ∃ l : List Draft, len = l.length ∧ DRow W a l ∧ (∀ d ∈ l, d.Ok) ∧ len ≤ 9223372036854775807 := by
  simp only [Value.cells] at h
  rcases open_slice (P := Try.prog) (e := 45) (by kernel_rfl) h with ⟨hcs, _⟩ | ⟨b, l, c, m, n, D, Pl, hcs, hb, hl, hm, hmm, hx, hi⟩
  · simp at hcs
    obtain ⟨rfl, rfl, rfl⟩ := hcs
    exact ⟨[], rfl, fun i hi => absurd hi (Nat.not_lt_zero i), (fun x hx => by cases hx), by omega⟩
  · simp at hcs
    obtain ⟨rfl, rfl, rfl⟩ := hcs
    have hlm : len ≤ m := by rw [hmm]; split <;> omega
    rw [show Try.prog.cellsOf 45 = 6 from by kernel_rfl] at hi
    obtain ⟨ds, h1, h2⟩ := choose_list (α := Draft) (P := fun i d => d.Ok ∧ ∀ j u, d.cells[j]? = some u → W.cell? ((b.add (i * 6)).add j) = some u) len (fun i hil => by
      obtain ⟨cs', hc, ht⟩ := hi i (by omega)
      obtain ⟨_, hcl, hat⟩ := World.cells?_some hc
      obtain ⟨x0, q0, w0⟩ := leaf_int (leafAt_of (n := 8) (i := 0) (u := 5) (by kernel_rfl) ht) Try.underlying5
      obtain ⟨x1, q1, w1⟩ := leaf_int (leafAt_of (n := 8) (i := 1) (u := 5) (by kernel_rfl) ht) Try.underlying5
      obtain ⟨x2, q2, w2⟩ := leaf_int (leafAt_of (n := 8) (i := 2) (u := 5) (by kernel_rfl) ht) Try.underlying5
      obtain ⟨x3, q3, w3⟩ := leaf_int (leafAt_of (n := 8) (i := 3) (u := 5) (by kernel_rfl) ht) Try.underlying5
      obtain ⟨x4, q4, w4⟩ := leaf_int (leafAt_of (n := 8) (i := 4) (u := 5) (by kernel_rfl) ht) Try.underlying5
      obtain ⟨x5, q5, w5⟩ := leaf_int (leafAt_of (n := 8) (i := 5) (u := 5) (by kernel_rfl) ht) Try.underlying5
      refine ⟨⟨x0, x1, x2, x3, x4, x5⟩, ⟨bounds_u8 w0, bounds_u8 w1, bounds_u8 w2, bounds_u8 w3, bounds_u8 w4, bounds_u8 w5⟩, fun j u hu => ?_⟩
      have hj : j < 6 := by
        have := (Array.getElem?_eq_some_iff.1 hu).1
        simpa [Draft.cells] using this
      rw [hat j hj]
      match j, hj with
      | 0, _ => rw [q0]; exact hu
      | 1, _ => rw [q1]; exact hu
      | 2, _ => rw [q2]; exact hu
      | 3, _ => rw [q3]; exact hu
      | 4, _ => rw [q4]; exact hu
      | 5, _ => rw [q5]; exact hu)
    refine ⟨ds, h1.symm, fun i hil => ?_, fun d hd => ?_, by unfold maxLen at hm; omega⟩
    · obtain ⟨_, k2⟩ := h2 i hil
      obtain ⟨_, k0⟩ := h2 0 (by omega)
      obtain ⟨g, o, s⟩ := b
      have hs : s = none := by
        have h7 := k0 0 _ rfl
        simp only [Nat.zero_mul, Addr.add, if_pos] at h7
        cases s with
        | none => rfl
        | some z => simp [World.cell?] at h7; split at h7 <;> simp at h7
      subst hs
      refine ⟨g, o, rfl, ?_, fun j u hu => ?_⟩
      · have h7 := k2 0 (.int .u8 (ds[i]).a0) rfl
        rw [Addr.add_lit, Addr.add_lit] at h7
        exact World.block_lt_of_cell? W _ h7
      · have h7 := k2 j u hu
        rw [Addr.add_lit, Addr.add_lit] at h7
        exact h7
    · obtain ⟨i, hi2, rfl⟩ := List.getElem_of_mem hd
      exact (h2 i hi2).1
end Go.Proofs.Ytbboajhdijabbaa
