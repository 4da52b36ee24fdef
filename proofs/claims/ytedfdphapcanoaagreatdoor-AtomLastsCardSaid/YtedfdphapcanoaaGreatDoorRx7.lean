/- A run reckoned by the kernel: a region that draws its order comes to the same in every order. No program. -/
import Derived.Test.YtedfdphapcanoaaGreatDoorRx6
set_option linter.unusedVariables false
set_option linter.unusedSimpArgs false
namespace Go.Proofs.YtedfdphapcanoaaGreatDoor
open Go.RowKit Go.Lib
namespace Rx
variable {P : Program} {A : Amb}

def lis (l : Array Bool) (k : Nat) : Prop := l.getD k false = true
instance (l : Array Bool) (k : Nat) : Decidable (lis l k) := inferInstanceAs (Decidable (l.getD k false = true))
def inK (L : Nat → Log) (k id : Nat) : Prop := ∃ e ∈ L k, e.1 = id
/-- the frame when the operations of l have come up -/
def stE (e0 : Env) (d : Nat → Option Tmp) (V : Nat → Value) (l : Array Bool) : Nat → Env
  | 0 => e0
  | k + 1 => if lis l k then putE (stE e0 d V l k) (d k) (V k) else stE e0 d V l k
def stM (m0 : Mem) (L : Nat → Log) (l : Array Bool) : Nat → Mem
  | 0 => m0
  | k + 1 => if lis l k then (stM m0 L l k).add (L k) else stM m0 L l k
theorem putE_get (e : Env) (d : Option Tmp) (v : Value) (t : Nat) : putE e d v t = if d = some t then some v else e t := by
  cases d with
  | none => rfl
  | some d =>
    simp only [putE, Env.put, Option.some.injEq]
    by_cases h : t = d
    · subst h; simp
    · rw [if_neg (fun e => h e.symm)]
      cases hb : Nat.beq t d
      · rfl
      · exact absurd (Nat.eq_of_beq_eq_true hb) h
theorem stE_eq {e0 : Env} {d : Nat → Option Tmp} {V : Nat → Value} {l l' : Array Bool} {t : Nat} : ∀ (n : Nat), (∀ k, k < n → d k = some t → (lis l k ↔ lis l' k)) → stE e0 d V l n t = stE e0 d V l' n t
  | 0, _ => rfl
  | n + 1, h => by
    have ih := stE_eq (e0 := e0) (V := V) n fun k hk => h k (by omega)
    simp only [stE]
    by_cases hd : d n = some t
    · have := h n (by omega) hd
      by_cases hl : lis l n
      · rw [if_pos hl, if_pos (this.1 hl), putE_get, putE_get, if_pos hd, if_pos hd]
      · rw [if_neg hl, if_neg (fun h => hl (this.2 h)), ih]
    · have e1 : (if lis l n then putE (stE e0 d V l n) (d n) (V n) else stE e0 d V l n) t = stE e0 d V l n t := by
        split
        · rw [putE_get, if_neg hd]
        · rfl
      have e2 : (if lis l' n then putE (stE e0 d V l' n) (d n) (V n) else stE e0 d V l' n) t = stE e0 d V l' n t := by
        split
        · rw [putE_get, if_neg hd]
        · rfl
      rw [e1, e2, ih]
theorem stM_eq {m0 : Mem} {L : Nat → Log} {l l' : Array Bool} {id : Nat} : ∀ (n : Nat), (∀ k, k < n → inK L k id → (lis l k ↔ lis l' k)) → stM m0 L l n id = stM m0 L l' n id
  | 0, _ => rfl
  | n + 1, h => by
    have ih := stM_eq (m0 := m0) n fun k hk => h k (by omega)
    simp only [stM]
    by_cases hd : inK L n id
    · have := h n (by omega) hd
      by_cases hl : lis l n
      · rw [if_pos hl, if_pos (this.1 hl)]; exact add_in hd
      · rw [if_neg hl, if_neg (fun h => hl (this.2 h)), ih]
    · have e1 : (if lis l n then (stM m0 L l n).add (L n) else stM m0 L l n) id = stM m0 L l n id := by
        split
        · exact add_out hd
        · rfl
      have e2 : (if lis l' n then (stM m0 L l' n).add (L n) else stM m0 L l' n) id = stM m0 L l' n id := by
        split
        · exact add_out hd
        · rfl
      rw [e1, e2, ih]
/-- one more has come up, that nothing behind it writes over -/
theorem stE_put {e0 : Env} {d : Nat → Option Tmp} {V : Nat → Value} {l : Array Bool} {t i : Nat} (hi : i < l.size) : ∀ (n : Nat), i < n → (∀ k, i < k → k < n → lis l k → d k = some t → d i ≠ some t) →
    stE e0 d V (l.setIfInBounds i true) n t = if d i = some t then some (V i) else stE e0 d V l n t
  | 0, h, _ => by omega
  | n + 1, hn, h => by
    have hs : ∀ k, lis (l.setIfInBounds i true) k ↔ k = i ∨ lis l k := fun k => by
      unfold lis
      by_cases e : k = i
      · subst e; simp [hi]
      · simp [Array.getD_eq_getD_getElem?, Array.getElem?_setIfInBounds_ne (fun h => e h.symm), e]
    by_cases hin : i = n
    · subst hin
      simp only [stE]
      rw [if_pos ((hs i).2 (Or.inl rfl)), putE_get]
      by_cases hd : d i = some t
      · rw [if_pos hd, if_pos hd]
      · rw [if_neg hd, if_neg hd]
        have : stE e0 d V (l.setIfInBounds i true) i t = stE e0 d V l i t := stE_eq i fun k hk _ => by rw [hs]; exact ⟨fun h => h.resolve_left (by omega), Or.inr⟩
        rw [this]
        split
        · rw [putE_get, if_neg hd]
        · rfl
    · have ih := stE_put (e0 := e0) (V := V) hi n (by omega) fun k h1 h2 => h k h1 (by omega)
      simp only [stE]
      by_cases hl : lis l n
      · rw [if_pos ((hs n).2 (Or.inr hl)), if_pos hl, putE_get, putE_get, ih]
        by_cases hd : d n = some t
        · rw [if_pos hd, if_pos hd, if_neg (h n (by omega) (by omega) hl hd)]
        · rw [if_neg hd, if_neg hd]
      · rw [if_neg (fun e => hl (((hs n).1 e).resolve_left (fun e => hin e.symm))), if_neg hl, ih]
theorem stM_put {m0 : Mem} {L : Nat → Log} {l : Array Bool} {id i : Nat} (hi : i < l.size) : ∀ (n : Nat), i < n → (∀ k, i < k → k < n → lis l k → inK L k id → ¬ inK L i id) →
    stM m0 L (l.setIfInBounds i true) n id = (stM m0 L l n).add (L i) id
  | 0, h, _ => by omega
  | n + 1, hn, h => by
    have hs : ∀ k, lis (l.setIfInBounds i true) k ↔ k = i ∨ lis l k := fun k => by
      unfold lis
      by_cases e : k = i
      · subst e; simp [hi]
      · simp [Array.getD_eq_getD_getElem?, Array.getElem?_setIfInBounds_ne (fun h => e h.symm), e]
    by_cases hin : i = n
    · subst hin
      simp only [stM]
      rw [if_pos ((hs i).2 (Or.inl rfl))]
      by_cases hd : inK L i id
      · exact add_in hd
      · rw [add_out hd, add_out hd]
        have : stM m0 L (l.setIfInBounds i true) i id = stM m0 L l i id := stM_eq i fun k hk _ => by rw [hs]; exact ⟨fun h => h.resolve_left (by omega), Or.inr⟩
        rw [this]
        split
        · rw [add_out hd]
        · rfl
    · have ih := stM_put (m0 := m0) hi n (by omega) fun k h1 h2 => h k h1 (by omega)
      simp only [stM]
      by_cases hl : lis l n
      · rw [if_pos ((hs n).2 (Or.inr hl)), if_pos hl]
        by_cases hd : inK L n id
        · have hni := h n (by omega) (by omega) hl hd
          rw [add_out hni]
          exact add_in hd
        · rw [add_out hd, ih]
          by_cases hd2 : inK L i id
          · exact add_in hd2
          · rw [add_out hd2, add_out hd2, add_out hd]
      · rw [if_neg (fun e => hl (((hs n).1 e).resolve_left (fun e => hin e.symm))), if_neg hl, ih]
end Rx
end Go.Proofs.YtedfdphapcanoaaGreatDoor
