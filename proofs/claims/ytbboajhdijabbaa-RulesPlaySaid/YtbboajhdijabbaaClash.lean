/- rules: the document's clash is the program's (plain). -/
import Derived.Test.YtbboajhdijabbaaRule21
set_option linter.unusedVariables false
set_option linter.unusedSimpArgs false
namespace Go.Proofs.Ytbboajhdijabbaa
open Go.RowKit Go.Lib
attribute [local go_sem] Oper.semAt_some

/-- the document's clash of two static rules; of a static one and another -/
def dc33 (a b : Rule) : Bool := decide (a.p = b.p) && ((decide (a.e = b.e) && decide (a.f = b.f)) || (decide (a.ia = b.ia) && decide (a.ip = b.ip)))
def dc3 (o : Int) (a b : Rule) : Bool := !(decide (b.p ≠ 0) && decide (b.p ≠ a.p)) && (decide ((wholeR o b).e = a.e) && decide (b.f ≤ a.f) && decide (a.f ≤ b.t))
def dClash (o : Int) (a b : Rule) : Bool := if a.k = 3 then (if b.k = 3 then dc33 a b else dc3 o a b) else if b.k = 3 then dc3 o b a else false
theorem mayR_t {ip b : Int} {r : Rule} (h : mayR ip b r = true) (hk : r.k = 3) : r.t = r.f := by
  unfold mayR at h
  rw [if_neg (by omega), if_neg (by omega), if_pos hk] at h
  unfold stOk at h
  simp only [Bool.and_eq_true, decide_eq_true_eq] at h
  exact h.1.1.2
theorem clash_doc {ip b : Int} (o : Int) (a r : Rule) (ha : mayR ip b a = true) (hr : mayR ip b r = true) : dClash o a r = clashR (wholeR o a) (wholeR o r) := by
  have ta := mayR_t ha
  have tr := mayR_t hr
  have w3 : ∀ x : Rule, x.k = 3 → wholeR o x = x := fun x hx => by unfold wholeR; rw [if_neg (by omega)]
  have wk : ∀ x : Rule, (wholeR o x).k = x.k := fun x => by unfold wholeR; split <;> rfl
  have wp : ∀ x : Rule, (wholeR o x).p = x.p := fun x => by unfold wholeR; split <;> rfl
  have wf : ∀ x : Rule, (wholeR o x).f = x.f := fun x => by unfold wholeR; split <;> rfl
  have wt : ∀ x : Rule, (wholeR o x).t = x.t := fun x => by unfold wholeR; split <;> rfl
  unfold dClash clashR
  rw [wk]
  by_cases h1 : a.k = 3
  · rw [if_pos h1, if_pos h1, w3 a h1]
    by_cases h2 : r.k = 3
    · rw [if_pos h2, w3 r h2]
      unfold dc33 clash0
      have t1 := ta h1; have t2 := tr h2
      rw [Bool.eq_iff_iff]
      simp only [h1, h2, decide_true, Bool.true_and, Bool.and_true, Bool.or_true, Bool.and_eq_true, Bool.or_eq_true, decide_eq_true_eq, Bool.not_eq_true', decide_eq_false_iff_not]
      omega
    · rw [if_neg h2]
      unfold dc3 clash0
      rw [wk, wp, wf, wt]
      rw [Bool.eq_iff_iff]
      simp only [h1, h2, decide_true, decide_false, Bool.true_and, Bool.false_and, Bool.or_false, Bool.false_or, Bool.and_eq_true, Bool.or_eq_true, decide_eq_true_eq, Bool.not_eq_true', Bool.and_eq_false_iff, decide_eq_false_iff_not]
      omega
  · rw [if_neg h1, if_neg h1]
    by_cases h2 : r.k = 3
    · rw [if_pos h2, w3 r h2]
      unfold dc3 clash0
      rw [wk, wp, wf, wt]
      rw [Bool.eq_iff_iff]
      simp only [h1, h2, decide_true, decide_false, Bool.true_and, Bool.false_and, Bool.or_false, Bool.false_or, Bool.and_eq_true, Bool.or_eq_true, decide_eq_true_eq, Bool.not_eq_true', Bool.and_eq_false_iff, decide_eq_false_iff_not]
      omega
    · rw [if_neg h2]
      unfold clash0
      rw [wk]
      simp [h2]
end Go.Proofs.Ytbboajhdijabbaa
