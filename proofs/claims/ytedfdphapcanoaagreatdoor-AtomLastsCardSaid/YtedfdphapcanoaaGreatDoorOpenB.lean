/- Slices as arguments: their addresses; slices of bools. -/
import Derived.Test.YtedfdphapcanoaaGreatDoorLeaf
import Derived.Test.YtedfdphapcanoaaGreatDoorLaw21m
import Derived.OpenShut
import Derived.Deep.Slices
set_option linter.unusedVariables false
set_option linter.unusedSimpArgs false
namespace Go.Proofs.YtedfdphapcanoaaGreatDoor
open Go.RowKit Go.Lib Go.ChangeShapes Go.WideShapes Go.Deep

theorem real_slice {P : Program} {w : World} {base : Nat} {t e : TypeId} {X : Option Addr} {n c : Nat} (ht : P.underlying t = some (.slice e)) (h : Value.okWide P w .any base t (.slice X n c)) : RealA X := by
  simp only [Value.okWide, ht, Cell.okWide] at h
  cases X with
  | none => exact .inl rfl
  | some a =>
    simp only [Cell.ok, ht] at h
    obtain ⟨b, o, s⟩ := a
    have hs : s = none := h.2.2.2.1
    subst hs
    exact .inr ⟨b, o, rfl⟩
theorem open_bools {H : Type} {enc : TypeId × Value → H} {W : World} {base : Nat} {spare : Nat → Bool} {held : Bool} {fuel : Nat} {A : Option Addr} {n c : Nat} {x : DataW H × List MemPlace}
    (h : DataW.trod enc Tryz.prog W base spare held fuel 23 [.slice A n c] = some x) : ∃ l : List Bool, Row W W.heap.size A n (l.map Value.bool) ∧ n ≤ 9223372036854775807 := by
  rcases open_slice (P := Tryz.prog) (e := 4) (by kernel_rfl) h with ⟨hcs, _⟩ | ⟨b, len, c', m, n', D, Pl, hcs, hb, hl, hm, hmm, hx, hi⟩
  · simp at hcs
    obtain ⟨rfl, rfl, rfl⟩ := hcs
    exact ⟨[], Row.nil, by omega⟩
  · simp at hcs
    obtain ⟨rfl, rfl, rfl⟩ := hcs
    have hlm : n ≤ m := by rw [hmm]; split <;> omega
    have hc : ∀ i, i < n → ∃ y : Bool, W.cell? (b.add i) = some (.bool y) := fun i hin => by
      obtain ⟨cs', hc, ht⟩ := hi i (by omega)
      rw [show Tryz.prog.cellsOf 4 = 1 from by kernel_rfl, Nat.mul_one] at hc
      obtain ⟨y, hy⟩ := leaf_bool (leafAt_of (n := 8) (i := 0) (u := 4) (by kernel_rfl) ht) Tryz.underlying4
      obtain ⟨_, hcl, hat⟩ := World.cells?_some hc
      refine ⟨y, ?_⟩
      have := hat 0 (by omega)
      rw [hy] at this
      simpa [Addr.add] using this
    obtain ⟨l, h1, h2⟩ : ∃ l : List Bool, l.length = n ∧ ∀ i (hi : i < l.length), W.cell? (b.add i) = some (.bool l[i]) := by
      clear hi hx hm hl hmm hlm h
      induction n with
      | zero => exact ⟨[], rfl, fun i hi => absurd hi (Nat.not_lt_zero i)⟩
      | succ n ih =>
        obtain ⟨l, h1, h2⟩ := ih fun i hi => hc i (by omega)
        obtain ⟨y, hy⟩ := hc n (by omega)
        refine ⟨l ++ [y], by simp [h1], fun i hi => ?_⟩
        by_cases e : i < l.length
        · rw [List.getElem_append_left e]; exact h2 i e
        · have e' : i = n := by simp at hi; omega
          subst e'
          rw [List.getElem_append_right (by omega)]
          simpa [h1] using hy
    refine ⟨l, row_of_cells (by simp [h1]) (fun i u hu => ?_), by unfold maxLen at hm; omega⟩
    have hil : i < l.length := by
      have := (List.getElem?_eq_some_iff.1 hu).1
      simpa using this
    rw [h2 i hil]
    rw [List.getElem?_map, List.getElem?_eq_getElem hil] at hu
    exact hu
end Go.Proofs.YtedfdphapcanoaaGreatDoor
