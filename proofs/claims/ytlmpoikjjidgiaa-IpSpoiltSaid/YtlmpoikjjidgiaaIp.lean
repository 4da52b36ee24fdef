/- ip over this program: what stands in a header, how many bytes it and its packet have. -/
import Derived.Test.YtlmpoikjjidgiaaLaw06d
import Derived.Deep.QuietTactic
import Derived.BigQuiet
set_option linter.unusedVariables false
namespace Go.Proofs.Ytlmpoikjjidgiaa
open Go.RowKit
attribute [local go_sem] Oper.semAt_some

theorem i_two (s : ByteArray) (k : Nat) (w : World) (hs : s.size ≤ maxLen) (h : k + 2 ≤ s.size) :
    Calls Try.prog 45 #[.string s, .int .i64 k] w (Quiet (.int .u16 (get16 (L s) k)) w) := by
  have c := fun w => Get16_in s k w hs h
  rw [← get16_nat (l := L s) (k := k) (by rw [L_length]; exact h)] at c
  obtain ⟨x, hx⟩ : ∃ x, x = get16 (L s) k := ⟨_, rfl⟩
  rw [← hx] at c ⊢
  have C := hide c
  clear c hx
  go_enter Try.func45, Try.ntmps45
  go_wp2_with fail
  (with_reducible refine (C.out _).mono ?_)
  rintro e w1 ⟨rfl, n1, rfl⟩
  go_wp2_with fail
  go_ret
  exact ⟨rfl, _, rfl⟩
theorem i_addr (s : ByteArray) (k : Nat) (w : World) (hs : s.size ≤ maxLen) (h : k + 4 ≤ s.size) :
    Calls Try.prog 46 #[.string s, .int .i64 k] w (Quiet (.int .u32 (get32 (L s) k)) w) := by
  have c := fun w => Get32_in s k w hs h
  rw [← get32_nat (l := L s) (k := k) (by rw [L_length]; exact h)] at c
  obtain ⟨x, hx⟩ : ∃ x, x = get32 (L s) k := ⟨_, rfl⟩
  have hxb : 0 ≤ x ∧ x ≤ 4294967295 := by rw [hx]; exact get32_bd _ _
  rw [← hx] at c ⊢
  have C := hide c
  clear c hx
  go_enter Try.func46, Try.ntmps46
  go_wp2_with fail
  (with_reducible refine (C.out _).mono ?_)
  rintro e w1 ⟨rfl, n1, rfl⟩
  go_wp2_with fail
  go_ret
  exact ⟨rfl, _, rfl⟩
theorem r4_number (s : ByteArray) (k : Nat) (w : World) (hs : s.size ≤ maxLen) (h : k + 2 ≤ s.size) :
    Calls Try.prog 47 #[.string s, .int .i64 k] w (fun e w' => e = .returned (.int .i64 (get16 (L s) k)) ∧ w' = w) := by
  have c := fun w => q_Get16 s k w hs h
  obtain ⟨x, hx⟩ : ∃ x, x = get16 (L s) k := ⟨_, rfl⟩
  have hxb : 0 ≤ x ∧ x ≤ 65535 := by rw [hx]; exact get16_bd _ _
  rw [← hx] at c ⊢
  have C := hide c
  clear c hx
  go_enter Try.func47, Try.ntmps47
  go_wp2_with fail
  (with_reducible refine (C.out _).mono ?_)
  rintro e w1 ⟨rfl, rfl⟩
  go_wp2_with fail
  go_ret
  exact ⟨rfl, rfl⟩
theorem r4_addr (s : ByteArray) (k : Nat) (w : World) (hs : s.size ≤ maxLen) (h : k + 4 ≤ s.size) :
    Calls Try.prog 48 #[.string s, .int .i64 k] w (fun e w' => e = .returned (.int .u32 (get32 (L s) k)) ∧ w' = w) := by
  have c := fun w => q_Get32 s k w hs h
  obtain ⟨x, hx⟩ : ∃ x, x = get32 (L s) k := ⟨_, rfl⟩
  have hxb : 0 ≤ x ∧ x ≤ 4294967295 := by rw [hx]; exact get32_bd _ _
  rw [← hx] at c ⊢
  have C := hide c
  clear c hx
  go_enter Try.func48, Try.ntmps48
  go_wp2_with fail
  (with_reducible refine (C.out _).mono ?_)
  rintro e w1 ⟨rfl, rfl⟩
  go_wp2_with fail
  go_ret
  exact ⟨rfl, rfl⟩

/-- how many bytes a header has, and its packet -/
def ipOwn (l : List UInt8) : Int := at_ l 0 % 16 * 4
def ipAll (l : List UInt8) : Int := get16 l 2
def ipFits (s : ByteArray) : Bool := decide (20 ≤ ipOwn (L s)) && decide (ipOwn (L s) ≤ ipAll (L s)) && decide (ipAll (L s) ≤ s.size) && decide (ipAll (L s) ≤ 2048)

set_option maxHeartbeats 2000000 in
theorem i_lengths (s : ByteArray) (w : World) (hs : s.size ≤ 140737488351232) (h : 20 ≤ s.size) :
    Calls Try.prog 44 #[.string s] w (Quiet (.tuple #[.int .i64 (ipOwn (L s)), .int .i64 (ipAll (L s)), .bool (ipFits s)]) w) := by
  have e0 : (((s[0]'(by omega)).toNat : Nat) : Int) = at_ (L s) 0 := by rw [getElem_L s 0 (by omega)]; rfl
  have hb := at_bd (L s) 0
  have i4 : (0 : Int) < (s.size : Int) := by omega
  have i5 : 0 < s.size := by omega
  have c := fun w => i_two s 2 w (by unfold maxLen; omega) (by omega)
  rw [show ((2 : Nat) : Int) = 2 from rfl] at c
  obtain ⟨f, hf⟩ : ∃ f, f = ipFits s := ⟨_, rfl⟩
  rw [← hf]
  unfold ipFits at hf
  have hy := get16_bd (L s) 2
  unfold ipAll ipOwn at hf ⊢
  obtain ⟨y, hy0⟩ : ∃ y, y = get16 (L s) 2 := ⟨_, rfl⟩
  obtain ⟨x, hx0⟩ : ∃ x, x = at_ (L s) 0 := ⟨_, rfl⟩
  rw [← hy0] at hf hy c ⊢
  rw [← hx0] at hf hb e0 ⊢
  have C := hide c
  clear c hy0 hx0
  have hcase : (f = false ∧ ¬ 20 ≤ x % 16 * 4) ∨ (f = false ∧ 20 ≤ x % 16 * 4 ∧ ¬ x % 16 * 4 ≤ y) ∨ (f = false ∧ 20 ≤ x % 16 * 4 ∧ x % 16 * 4 ≤ y ∧ ¬ y ≤ s.size) ∨ (f = false ∧ 20 ≤ x % 16 * 4 ∧ x % 16 * 4 ≤ y ∧ y ≤ s.size ∧ ¬ y ≤ 2048) ∨ (f = true ∧ 20 ≤ x % 16 * 4 ∧ x % 16 * 4 ≤ y ∧ y ≤ s.size ∧ y ≤ 2048) := by
    by_cases a1 : 20 ≤ x % 16 * 4 <;> by_cases a2 : x % 16 * 4 ≤ y <;> by_cases a3 : y ≤ (s.size : Int) <;> by_cases a4 : y ≤ 2048 <;> simp [a1, a2, a3, a4] at hf <;> simp [a1, a2, a3, a4, hf]
  clear hf
  rcases hcase with ⟨rfl, q1⟩ | ⟨rfl, q1, q2⟩ | ⟨rfl, q1, q2, q3⟩ | ⟨rfl, q1, q2, q3, q4⟩ | ⟨rfl, q1, q2, q3, q4⟩
  all_goals
    go_enter Try.func44, Try.ntmps44
    go_wp2_with fail
    go_quiet ((go_at_call 45; refine Calls.quiet_of (C.out _)))
    go_wp2
    (try simp only [Exit.inBlock, Exit.then]); refine bodyPost_ret (by simp [results, Try.results44, go_sem]; try rfl) rfl ?_
    exact ⟨by first | rfl | (simp; omega), _, rfl⟩
end Go.Proofs.Ytlmpoikjjidgiaa
