/- rules: a rule stored into a slice of rules; Add and Delete, one behind the other. -/
import Derived.Test.YtbboajhdijabbaaRlaw6
import Derived.Test.YtbboajhdijabbaaRrows
set_option linter.unusedVariables false
set_option linter.unusedSimpArgs false
namespace Go.Proofs.Ytbboajhdijabbaa
open Go.RowKit Go.Lib
attribute [local go_sem] Oper.semAt_some

theorem cellsOf_set (l : List Rule) (k : Nat) (hk : k < l.length) (r : Rule) (j : Nat) : (cellsOf (l.set k r))[j]? = if k * 11 ≤ j ∧ j < k * 11 + 11 then r.cells.toList[j - k * 11]? else (cellsOf l)[j]? := by
  have h1 : l.set k r = l.take k ++ r :: l.drop (k + 1) := by rw [List.set_eq_take_append_cons_drop, if_pos hk]
  have h2 : l = l.take k ++ l[k] :: l.drop (k + 1) := by rw [← List.drop_eq_getElem_cons hk, List.take_append_drop]
  have e : ∀ (x : Rule), cellsOf (l.take k ++ x :: l.drop (k + 1)) = cellsOf (l.take k) ++ (x.cells.toList ++ cellsOf (l.drop (k + 1))) := fun x => by rw [cellsOf_append]; rfl
  have hlk : (cellsOf (l.take k)).length = k * 11 := by rw [cellsOf_length, List.length_take, Nat.min_eq_left (by omega)]
  have key : ∀ (A R R' D : List Value), A.length = k * 11 → R.length = 11 → R'.length = 11 → (A ++ (R ++ D))[j]? = if k * 11 ≤ j ∧ j < k * 11 + 11 then R[j - k * 11]? else (A ++ (R' ++ D))[j]? := by
    intro A R R' D hA hR hR'
    by_cases h3 : j < k * 11
    · rw [if_neg (by omega), List.getElem?_append_left (by omega), List.getElem?_append_left (by omega)]
    · by_cases h4 : j < k * 11 + 11
      · rw [if_pos (by omega), List.getElem?_append_right (by omega), hA, List.getElem?_append_left (by omega)]
      · rw [if_neg (by omega), List.getElem?_append_right (by omega), List.getElem?_append_right (by omega), hA, List.getElem?_append_right (by omega), List.getElem?_append_right (by omega), hR, hR', hA]
  rw [h1, e, key _ _ l[k].cells.toList _ hlk (cells11 _) (cells11 _), ← e, ← h2]

/-- a rule stored into a slice of rules -/
theorem RR.set {W : World} {g n c : Nat} {l : List Rule} (h : RR W (.slice (some ⟨g, 0, none⟩) n c) l) (k : Nat) (hk : k < l.length) (r : Rule) : RR (W.setCells g (k * 11) r.cells.toList) (.slice (some ⟨g, 0, none⟩) n c) (l.set k r) := by
  refine ⟨by rw [cellsOf_length], Or.inr ?_⟩
  rcases h.2 with ⟨h1, h2⟩ | ⟨g', cap, cur, hv, hb, hg, h1, h2, h3, h4⟩
  · cases h1
  · cases hv
    rw [List.length_set]
    obtain ⟨cs', k1, k2, k3⟩ := Cells.setCells_ r.cells.toList (k * 11) cur W hg (by rw [cells11]; have := Nat.mul_le_mul_right 11 (show k + 1 ≤ c by omega); omega)
    refine ⟨g, c, cs', rfl, hb, k1, h1, h2, by rw [k2]; exact h3, ?_⟩
    apply List.ext_getElem?
    intro j
    rw [cellsOf_set l k hk, List.getElem?_take]
    by_cases hj : j < l.length * 11
    · rw [if_pos hj, k3 j, cells11]
      split
      · rfl
      · rw [← h4, List.getElem?_take, if_pos hj]
    · rw [if_neg hj, if_neg (by have := Nat.mul_le_mul_right 11 (show k + 1 ≤ l.length by omega); omega), List.getElem?_eq_none (by rw [cellsOf_length]; omega)]

theorem del_add {o ip b : Int} {l : List Rule} {r : Rule} {k : Nat} (hz : addC o ip b l k r = 0) (hk : k ≤ l.length) : delL (addL o ip b l k r) k = l ∧ delC (addL o ip b l k r) k = 0 ∧ (addL o ip b l k r).length = l.length + 1 ∧ (addL o ip b l k r)[k]? = some r := by
  have e : addL o ip b l k r = l.take k ++ r :: l.drop k := by unfold addL; rw [if_pos hz]; rfl
  have hl : (addL o ip b l k r).length = l.length + 1 := by rw [e]; simp; omega
  have ht : (l.take k).length = k := by rw [List.length_take, Nat.min_eq_left hk]
  refine ⟨?_, ?_, hl, ?_⟩
  · unfold delL
    rw [if_neg (by rw [hl]; omega), e, Int.toNat_natCast]
    rw [List.take_append_of_le_length (by omega), List.take_of_length_le (by omega)]
    rw [List.drop_append, List.drop_of_length_le (by omega), ht, show k + 1 - k = 1 by omega]
    simp
  · unfold delC
    rw [if_neg (by rw [hl]; omega)]
  · rw [e, List.getElem?_append_right (by omega), ht, Nat.sub_self]; rfl
theorem RR.slot {W : World} {g n c : Nat} {l : List Rule} (h : RR W (.slice (some ⟨g, 0, none⟩) n c) l) {k : Nat} (hk : k < l.length) {r : Rule} (hr : l[k]? = some r) {i : Nat} {u : Value} (hi : i < 11) (hu : r.cells.toList[i]? = some u) : W.cell? ⟨g, k * 11 + i, none⟩ = some u := by
  obtain ⟨g', c', hv, _, _, _, hc⟩ := RR.cell h (by rintro rfl; simp at hk)
  cases hv
  refine hc _ _ ?_
  rw [cellsOf_at hk hi]
  rw [List.getElem?_eq_getElem hk] at hr
  cases hr
  exact hu
theorem RR.free {W : World} {g n c : Nat} {l : List Rule} (h : RR W (.slice (some ⟨g, 0, none⟩) n c) l) (hl : l ≠ []) (i : Nat) : W.frozen? ⟨g, i, none⟩ = false := by
  rcases h.2 with ⟨h1, h2⟩ | ⟨g', cap, cur, hv, hb, hg, h1, h2, h3, h4⟩
  · exact absurd (List.length_eq_zero_iff.1 h2) hl
  · cases hv
    exact Cells.free (w := W) (show Cells W g cur _ from hg) i
/-- a slice of rules of which the first k were struck -/
def struck (l : List Rule) (k : Nat) : List Rule := List.replicate k zeroR ++ l.drop k
theorem struck_zero (l : List Rule) : struck l 0 = l := by simp [struck]
theorem struck_length {l : List Rule} {k : Nat} (h : k ≤ l.length) : (struck l k).length = l.length := by simp [struck]; omega
theorem struck_at {l : List Rule} {k : Nat} (h : k < l.length) : (struck l k)[k]? = l[k]? := by
  unfold struck
  rw [List.getElem?_append_right (by simp), List.length_replicate, Nat.sub_self, List.getElem?_drop, Nat.add_zero]
theorem struck_set {l : List Rule} {k : Nat} (h : k < l.length) : (struck l k).set k zeroR = struck l (k + 1) := by
  unfold struck
  rw [List.set_append, if_neg (by simp), List.length_replicate, Nat.sub_self, List.drop_eq_getElem_cons h, List.set_cons_zero, List.replicate_succ', List.append_assoc]
  rfl
end Go.Proofs.Ytbboajhdijabbaa
