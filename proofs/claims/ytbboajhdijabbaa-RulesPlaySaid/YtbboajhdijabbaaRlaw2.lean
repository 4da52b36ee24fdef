/- rules: the law's drafts: a draft's rule may be. -/
import Derived.Test.YtbboajhdijabbaaRlaw1
set_option linter.unusedVariables false
set_option linter.unusedSimpArgs false
namespace Go.Proofs.Ytbboajhdijabbaa
open Go.RowKit Go.Lib
attribute [local go_sem] Oper.semAt_some

theorem l_Rule (w : World) (a0 a1 a2 a3 a4 a5 : Int) (h0 : 0 ≤ a0 ∧ a0 ≤ 255) (h1 : 0 ≤ a1 ∧ a1 ≤ 255) (h2 : 0 ≤ a2 ∧ a2 ≤ 255) (h3 : 0 ≤ a3 ∧ a3 ≤ 255) (h4 : 0 ≤ a4 ∧ a4 ≤ 255) (h5 : 0 ≤ a5 ∧ a5 ≤ 255) :
    Calls Try.prog 27 #[.agg #[.int .u8 a0, .int .u8 a1, .int .u8 a2, .int .u8 a3, .int .u8 a4, .int .u8 a5]] w (Ret (.agg (dRule a0 a1 a2 a3 a4 a5).cells) w) := by
  by_cases hz : a0 % 3 = 0
  · exact l_Rule_3 w a0 a1 a2 a3 a4 a5 h0 h1 h2 h3 h4 h5 hz
  · exact l_Rule_1 w a0 a1 a2 a3 a4 a5 h0 h1 h2 h3 h4 h5 hz
theorem dRule_ok {a0 a1 a2 a3 a4 a5 : Int} (h0 : 0 ≤ a0 ∧ a0 ≤ 255) (h1 : 0 ≤ a1 ∧ a1 ≤ 255) (h2 : 0 ≤ a2 ∧ a2 ≤ 255) (h3 : 0 ≤ a3 ∧ a3 ≤ 255) (h4 : 0 ≤ a4 ∧ a4 ≤ 255) (h5 : 0 ≤ a5 ∧ a5 ≤ 255) : (dRule a0 a1 a2 a3 a4 a5).Ok := by
  unfold dRule
  split
  · unfold Rule.Ok pr2
    refine ⟨by dsimp only; split <;> omega, by dsimp only; omega, by dsimp only; omega, by dsimp only; omega, by dsimp only; omega, by dsimp only; omega, by dsimp only; omega, by dsimp only; omega⟩
  · unfold Rule.Ok pr4 pxI qxI
    refine ⟨by dsimp only; repeat' split <;> omega, by dsimp only; repeat' split <;> omega, by dsimp only; repeat' split <;> omega, by dsimp only; split <;> omega, by dsimp only; omega, by dsimp only; omega, by dsimp only; omega, by dsimp only; omega⟩
theorem hasP_nines (m : Int) (h0 : 0 ≤ m) (h1 : m < 3) : hasP 167772160 8 (151587081 + m) = false := by
  rcases (show m = 0 ∨ m = 1 ∨ m = 2 by omega) with h | h | h <;> subst h <;> decide
theorem hasP_tens (m : Int) (h0 : 0 ≤ m) (h1 : m < 4) : hasP 167772160 8 (167772160 + m) = true := by
  rcases (show m = 0 ∨ m = 1 ∨ m = 2 ∨ m = 3 by omega) with h | h | h | h <;> subst h <;> decide
theorem mayP_p (m : Int) (h0 : 0 ≤ m) (h1 : m < 4) : mayP (pxI m) (pxB m) = true := by
  rcases (show m = 0 ∨ m = 1 ∨ m = 2 ∨ m = 3 by omega) with h | h | h | h <;> subst h <;> decide
theorem mayP_q (m : Int) (h0 : 0 ≤ m) (h1 : m < 3) : mayP (qxI m) (qxB m) = true := by
  rcases (show m = 0 ∨ m = 1 ∨ m = 2 by omega) with h | h | h <;> subst h <;> decide
/-- a draft's rule may be -/
theorem dRule_may {a0 a1 a2 a3 a4 a5 : Int} (h0 : 0 ≤ a0 ∧ a0 ≤ 255) (h1 : 0 ≤ a1 ∧ a1 ≤ 255) (h2 : 0 ≤ a2 ∧ a2 ≤ 255) (h3 : 0 ≤ a3 ∧ a3 ≤ 255) (h4 : 0 ≤ a4 ∧ a4 ≤ 255) (h5 : 0 ≤ a5 ∧ a5 ≤ 255) : mayR 167772160 8 (dRule a0 a1 a2 a3 a4 a5) = true := by
  unfold dRule
  split
  · unfold mayR
    rw [if_neg (show ¬ (3 : Int) = 1 by decide), if_neg (show ¬ (3 : Int) = 2 by decide), if_pos rfl]
    unfold stOk
    simp only [hasP_nines _ (show 0 ≤ a2 % 3 by omega) (by omega), hasP_tens _ (show 0 ≤ a4 % 4 by omega) (by omega)]
    have hp : pr2 (a1 % 2) = 6 ∨ pr2 (a1 % 2) = 17 := by unfold pr2; split <;> simp
    simp [hp]
    omega
  · have hs : ∀ k e, srOk ⟨k, pr4 (a1 % 4), pxI (a4 % 4), pxB (a4 % 4), qxI (a5 % 3), qxB (a5 % 3), e, 4 + a3 % 8, 4 + a3 % 8 + a3 / 8 % 4, 0, 0⟩ = true := by
      intro k e
      unfold srOk
      simp only [mayP_p _ (show 0 ≤ a4 % 4 by omega) (by omega), mayP_q _ (show 0 ≤ a5 % 3 by omega) (by omega)]
      have hp : pr4 (a1 % 4) = 0 ∨ pr4 (a1 % 4) = 1 ∨ pr4 (a1 % 4) = 6 ∨ pr4 (a1 % 4) = 17 := by unfold pr4; omega
      simp only [Bool.and_eq_true, Bool.or_eq_true, decide_eq_true_eq, and_true, true_and]
      refine ⟨⟨by omega, by omega⟩, by omega⟩
    by_cases hk : a0 % 3 = 1
    · rw [if_pos hk, if_pos hk]
      unfold mayR
      rw [if_neg (show ¬ (2 : Int) = 1 by decide), if_pos rfl, hs]
      simp
    · rw [if_neg hk, if_neg hk]
      unfold mayR
      rw [if_pos rfl, hs]
      simp only [hasP_nines _ (show 0 ≤ a2 % 3 by omega) (by omega)]
      rfl
end Go.Proofs.Ytbboajhdijabbaa
