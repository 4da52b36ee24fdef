/- rules: a rule put into a slice of rules (slices.Insert). -/
import Derived.Test.YtbboajhdijabbaaRule4
import Derived.Test.YtbboajhdijabbaaRunK
import Derived.Maps.AppendAt
import Derived.Lib.AppendZerosOnto
import Derived.Laws.NewBlocks
set_option linter.unusedVariables false
set_option linter.unusedSimpArgs false
namespace Go.Proofs.Ytbboajhdijabbaa
open Go.RowKit Go.Lib
attribute [local go_sem] Oper.semAt_some

theorem oneCells (l : List Rule) : ∀ v ∈ cellsOf l, v.oneCell' = true := by
  intro v hv
  obtain ⟨r, _, hr⟩ := List.mem_flatMap.1 hv
  simp only [Rule.cells, List.mem_cons, List.not_mem_nil, or_false] at hr
  rcases hr with h | h | h | h | h | h | h | h | h | h | h <;> (subst h; rfl)
theorem oneCell1 (r : Rule) : ∀ v ∈ r.cells.toList, v.oneCell' = true := by
  have := oneCells [r]
  simpa [cellsOf] using this

theorem Cells.setCells_ {b : Nat} {T : TypeId} : ∀ (vs : List Value) (o : Nat) (cs : Array Value) (w : World), Cells w b cs T → o + vs.length ≤ cs.size → ∃ cs', Cells (w.setCells b o vs) b cs' T ∧ cs'.size = cs.size ∧ ∀ j, cs'.toList[j]? = if o ≤ j ∧ j < o + vs.length then vs[j - o]? else cs.toList[j]?
  | [], o, cs, w, h, _ => ⟨cs, h, rfl, fun j => by rw [if_neg (by simp)]⟩
  | v :: vs, o, cs, w, h, hs => by
    simp only [List.length_cons] at hs
    obtain ⟨cs', h1, h2, h3⟩ := Cells.setCells_ vs (o + 1) _ _ (Cells.set_ h o v) (by simp; omega)
    refine ⟨cs', h1, by rw [h2]; simp, fun j => ?_⟩
    rw [h3 j]
    by_cases e : j = o
    · subst e
      rw [if_neg (by omega), if_pos (by simp), Array.toList_setIfInBounds, List.getElem?_set_self (by rw [Array.length_toList]; omega)]
      simp
    · by_cases h4 : o + 1 ≤ j ∧ j < o + 1 + vs.length
      · rw [if_pos h4, if_pos (by simp only [List.length_cons]; omega), show j - o = (j - (o + 1)) + 1 by omega]
        rfl
      · rw [if_neg h4, if_neg (by simp only [List.length_cons]; omega)]
        rw [Array.toList_setIfInBounds, List.getElem?_set_ne (by omega)]
theorem size_setCells_ (b : Nat) : ∀ (vs : List Value) (o : Nat) (w : World), (w.setCells b o vs).heap.size = w.heap.size
  | [], _, _ => rfl
  | v :: vs, o, w => by rw [World.setCells, size_setCells_ b vs]; simp
theorem Only.setCells_ {X : Nat → Prop} {A : World} {b : Nat} : ∀ (vs : List Value) (o : Nat) (w : World), Only X A w → X b ∨ A.heap.size ≤ b → Only X A (w.setCells b o vs)
  | [], _, _, h, _ => h
  | v :: vs, o, w, h, hb => Only.setCells_ vs (o + 1) _ (by
      refine ⟨h.os, h.tape, h.output, by have := h.size; simpa using this, fun k hk hx => ?_⟩
      refine Eq.trans ?_ (h.block k hk hx)
      exact Below.heap_setCell w ⟨b, o, none⟩ v k (by
        show k ≠ b
        rintro rfl
        rcases hb with hb | hb
        · exact hx hb
        · omega)) hb

/-- the rows of rules with one put in -/
theorem cellsOf_insert (l : List Rule) (i : Nat) (r : Rule) : cellsOf (l.take i ++ r :: l.drop i) = (cellsOf l).take (i * 11) ++ (r.cells.toList ++ (cellsOf l).drop (i * 11)) := by
  rw [cellsOf_append, cellsOf_take, cellsOf_drop]
  rfl

/-- cells with rows put in place -/
theorem put_row {X R Y : List Value} {n i : Nat} (hi : i ≤ n) (hX : X.length = n * 11) (hR : R.length = 11) (hY : ∀ j, j < (n + 1) * 11 → Y[j]? = if i * 11 ≤ j ∧ j < i * 11 + 11 then R[j - i * 11]? else if (i + 1) * 11 ≤ j ∧ j < (i + 1) * 11 + (n - i) * 11 then (X.drop (i * 11))[j - (i + 1) * 11]? else X[j]?) (hl : (n + 1) * 11 ≤ Y.length) :
    Y.take ((n + 1) * 11) = X.take (i * 11) ++ (R ++ X.drop (i * 11)) := by
  apply List.ext_getElem?
  intro j
  by_cases h : j < (n + 1) * 11
  · rw [List.getElem?_take_of_lt h, hY j h]
    by_cases h1 : j < i * 11
    · rw [if_neg (by omega), if_neg (by omega), List.getElem?_append_left (by rw [List.length_take]; omega), List.getElem?_take_of_lt h1]
    · rw [List.getElem?_append_right (by rw [List.length_take]; omega), List.length_take, Nat.min_eq_left (by omega)]
      by_cases h2 : j < i * 11 + 11
      · rw [if_pos (by omega), List.getElem?_append_left (by omega)]
      · rw [if_neg (by omega), if_pos (by omega), List.getElem?_append_right (by omega), hR, show j - (i + 1) * 11 = j - i * 11 - 11 by omega]
  · rw [List.getElem?_eq_none (by rw [List.length_take]; omega), List.getElem?_eq_none (by simp only [List.length_append, List.length_take, List.length_drop]; omega)]
end Go.Proofs.Ytbboajhdijabbaa
