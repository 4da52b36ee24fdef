/- rules: what loops ask of a slice of rules. -/
import Derived.Test.YtbboajhdijabbaaRule21
set_option linter.unusedVariables false
set_option linter.unusedSimpArgs false
namespace Go.Proofs.Ytbboajhdijabbaa
open Go.RowKit Go.Lib
attribute [local go_sem] Oper.semAt_some

theorem RR.rows {W : World} {l : List Rule} {v : Value} (h : RR W v l) : ∃ A c, v = .slice A l.length c ∧ (0 < l.length → ∃ g, A = some ⟨g, 0, none⟩ ∧ g < W.heap.size ∧ ∀ k (hk : k < l.length) i u, i < 11 → (l[k]).cells.toList[i]? = some u → W.cell? ⟨g, k * 11 + i, none⟩ = some u) := by
  obtain ⟨A, c, hv⟩ := slice_of h
  refine ⟨A, c, hv, fun hn => ?_⟩
  obtain ⟨g, c', hv', hg, _, _, hc⟩ := RR.cell h (by rintro rfl; simp at hn)
  rw [hv] at hv'
  cases hv'
  exact ⟨g, rfl, hg, fun k hk i u hi hu => hc _ _ (by rw [cellsOf_at hk hi]; exact hu)⟩
theorem TS.b {W W' : World} {B : Nat} {o ip b : Int} {l : List Rule} {v : Value} (k : Below W.heap.size W W') (h : TS W B o ip b l v) : TS W' B o ip b l v := h.below k
/-- the first rule that fits, as it lies -/
def rawR (p : Rule → Bool) (l : List Rule) : Rule := match l.find? p with | some r => r | none => zeroR
theorem firstR_raw (o : Int) (p : Rule → Bool) (l : List Rule) (hp : ∀ r, p r = true → r.k = 3) : firstR o p l = rawR p l := by
  unfold firstR rawR
  cases h : l.find? p with
  | none => rfl
  | some r => exact (show wholeR o r = r by unfold wholeR; rw [if_neg (by have := hp r (List.find?_some h); omega)])
end Go.Proofs.Ytbboajhdijabbaa
