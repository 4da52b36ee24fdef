/- A sum that goes along with the words: plain facts of SumsHold. -/
import Derived.Test.YtcghhnehmddoeaaDoorNums
set_option linter.unusedVariables false
namespace Go.Proofs.YtcghhnehmddoeaaDoor
open Go.RowKit

theorem totI_set : ∀ (l : List Int) (k : Nat) (x : Int), k < l.length → tot (l.set k x) = tot l - l.getD k 0 + x
  | l, k, x, h => by
    have e1 := tot_set0 l k x h
    have e2 := tot_set0 l k (l.getD k 0) h
    rw [set_self l k h] at e2
    omega
theorem getD_set_ne {l : List Int} {i k : Nat} (h : i ≠ k) (y : Int) : (l.set i y).getD k 0 = l.getD k 0 := by
  simp [List.getD_eq_getElem?_getD, List.getElem?_set_ne h]
/-- the sum, and the words, behind j rounds -/
def holdSt (l m : List Int) (f k : Nat) : Nat → Int × List Int
  | 0 => (l.getD k 0, l)
  | j + 1 => if f + j = k then holdSt l m f k j else (upd (holdSt l m f k j).1 (l.getD (f + j) 0) (m.getD j 0), (holdSt l m f k j).2.set (f + j) (m.getD j 0))
theorem holdSt_ok {l m : List Int} {f k : Nat} (hl : ∀ x ∈ l, 0 ≤ x ∧ x ≤ 65535) (hm : ∀ x ∈ m, 0 ≤ x ∧ x ≤ 65535) (hf : f + m.length ≤ l.length) (hk : k < l.length) :
    ∀ j, j ≤ m.length → (0 ≤ (holdSt l m f k j).1 ∧ (holdSt l m f k j).1 ≤ 65535) ∧ (holdSt l m f k j).2.length = l.length ∧ (∀ x ∈ (holdSt l m f k j).2, 0 ≤ x ∧ x ≤ 65535) ∧
      (∀ i, f + j ≤ i → (holdSt l m f k j).2.getD i 0 = l.getD i 0) ∧ (tot ((holdSt l m f k j).2.set k (holdSt l m f k j).1) - tot l) % 65535 = 0
  | 0, _ => by
    refine ⟨hl _ (getD_mem hk), rfl, hl, fun _ _ => rfl, ?_⟩
    show (tot (l.set k (l.getD k 0)) - tot l) % 65535 = 0
    rw [set_self l k hk]; omega
  | j + 1, hj => by
    obtain ⟨h1, h2, h3, h4, h5⟩ := holdSt_ok hl hm hf hk j (by omega)
    have e : holdSt l m f k (j + 1) = if f + j = k then holdSt l m f k j else (upd (holdSt l m f k j).1 (l.getD (f + j) 0) (m.getD j 0), (holdSt l m f k j).2.set (f + j) (m.getD j 0)) := rfl
    rw [e]
    by_cases he : f + j = k
    · rw [if_pos he]
      exact ⟨h1, h2, h3, fun i hi => h4 i (by omega), h5⟩
    · rw [if_neg he]
      have hx := hl _ (getD_mem (show f + j < l.length by omega))
      have hy := hm _ (getD_mem (show j < m.length by omega))
      have hNi := h4 (f + j) (by omega)
      generalize (holdSt l m f k j).1 = s at *
      generalize (holdSt l m f k j).2 = N at *
      have hu := upd_mod h1 hx hy
      show (0 ≤ upd s _ _ ∧ upd s _ _ ≤ 65535) ∧ (N.set (f + j) (m.getD j 0)).length = l.length ∧ (∀ x ∈ N.set (f + j) (m.getD j 0), 0 ≤ x ∧ x ≤ 65535) ∧ (∀ i, f + (j + 1) ≤ i → (N.set (f + j) (m.getD j 0)).getD i 0 = l.getD i 0) ∧ (tot ((N.set (f + j) (m.getD j 0)).set k (upd s (l.getD (f + j) 0) (m.getD j 0))) - tot l) % 65535 = 0
      refine ⟨upd_bd h1 hx hy, by rw [List.length_set, h2], set_bd h3 hy, fun i hi => by rw [getD_set_ne (by omega)]; exact h4 i (by omega), ?_⟩
      rw [totI_set _ k _ (by rw [List.length_set]; omega), getD_set_ne he, totI_set N (f + j) _ (by omega), hNi]
      rw [totI_set N k _ (by omega)] at h5
      generalize tot N = T at *
      generalize N.getD k 0 = z at *
      generalize upd s (l.getD (f + j) 0) (m.getD j 0) = u at *
      omega
theorem updates_one {s x y : Int} (hx : 0 ≤ x ∧ x ≤ 65535) (hy : 0 ≤ y ∧ y ≤ 65535) : updates s (L (S (putW [x]))) (L (S (putW [y]))) = upd s x y := by
  unfold updates
  rw [L_S, L_S, words_putW' (by intro z hz; simp at hz; subst hz; exact hx), words_putW' (by intro z hz; simp at hz; subst hz; exact hy), if_neg (by simp [putW_length])]
  rfl
theorem holds_putW {l : List Int} (hl : ∀ x ∈ l, 0 ≤ x ∧ x ≤ 65535) : holds [L (S (putW l))] = true ↔ tot l % 65535 = 0 ∧ tot l ≠ 0 := by
  rw [holds_iff]; simp only [List.flatMap_cons, List.flatMap_nil, List.append_nil]; rw [L_S, words_putW' hl]
/-- a text holds just if it held -/
theorem hold_same {l N : List Int} (hl : ∀ x ∈ l, 0 ≤ x ∧ x ≤ 65535) (hN : ∀ x ∈ N, 0 ≤ x ∧ x ≤ 65535) (h : (tot N - tot l) % 65535 = 0) (h1 : trim0 (S (putW l)) ≠ { data := #[] }) (h2 : trim0 (S (putW N)) ≠ { data := #[] }) :
    holds [L (S (putW N))] = holds [L (S (putW l))] := by
  rw [Ne, void_putW hl] at h1
  rw [Ne, void_putW hN] at h2
  rw [Bool.eq_iff_iff, holds_putW hl, holds_putW hN]
  omega
/-- with its own sum in a word a text holds -/
theorem hold_own {N : List Int} (hN : ∀ x ∈ N, 0 ≤ x ∧ x ≤ 65535) {k : Nat} (hk : k < N.length) :
    holds [L (S (putW ((N.set k 0).set k (sumL [L (S (putW (N.set k 0)))]))))] = true := by
  have h0 := set_bd hN (k := k) (y := 0) (by omega)
  have hs := sumL_bd [L (S (putW (N.set k 0)))]
  rw [holds_putW (set_bd h0 hs), List.set_set, tot_set0 N k _ hk, sumL_putW h0]
  have hp := tot_nonneg h0
  have hm := rep_mod hp
  have hb := rep_bd hp
  have hz : tot (N.set k 0) = 0 → rep (tot (N.set k 0)) = 0 := fun e => by rw [e]; rfl
  generalize tot (N.set k 0) = T at *
  omega
end Go.Proofs.YtcghhnehmddoeaaDoor
