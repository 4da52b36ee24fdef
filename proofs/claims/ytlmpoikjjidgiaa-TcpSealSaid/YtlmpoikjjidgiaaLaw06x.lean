/- The ends of a segment with one bit turned: plain facts. -/
import Derived.Test.YtlmpoikjjidgiaaLaw06s
set_option linter.unusedVariables false
namespace Go.Proofs.Ytlmpoikjjidgiaa
open Go.RowKit
attribute [local go_sem] Oper.semAt_some

theorem xor32_nat (a b : Nat) (ha : a < 4294967296) (hb : b < 4294967296) : bits .xor .u32 (a : Int) (b : Int) = ((a ^^^ b : Nat) : Int) := by
  have hx : a ^^^ b < 2 ^ 32 := Nat.xor_lt_two_pow (by omega) (by omega)
  have h1 : (BitVec.ofInt 32 (a : Int)).toNat = a := by
    rw [BitVec.ofInt_natCast, BitVec.toNat_ofNat]; exact Nat.mod_eq_of_lt (by omega)
  have h2 : (BitVec.ofInt 32 (b : Int)).toNat = b := by
    rw [BitVec.ofInt_natCast, BitVec.toNat_ofNat]; exact Nat.mod_eq_of_lt (by omega)
  show IntKind.u32.wrap ((BitVec.ofInt 32 (a : Int) ^^^ BitVec.ofInt 32 (b : Int)).toNat : Int) = _
  rw [BitVec.toNat_xor, h1, h2, IntKind.wrap_u32]
  omega
theorem xor_near (a j : Nat) : (a ^^^ 2 ^ j) / 2 ^ (j + 1) = a / 2 ^ (j + 1) ∧ (a ^^^ 2 ^ j) % 2 ^ j = a % 2 ^ j ∧ a ^^^ 2 ^ j ≠ a := by
  refine ⟨?_, ?_, ?_⟩
  · rw [Nat.xor_div_two_pow, Nat.div_eq_of_lt (show 2 ^ j < 2 ^ (j + 1) from Nat.pow_lt_pow_right (by omega) (by omega)), Nat.xor_zero]
  · rw [Nat.xor_mod_two_pow, Nat.mod_self, Nat.xor_zero]
  · intro h
    have e : a ^^^ (a ^^^ 2 ^ j) = a ^^^ a := by rw [h]
    rw [← Nat.xor_assoc, Nat.xor_self, Nat.zero_xor] at e
    have := Nat.two_pow_pos j
    omega
theorem near (n v P : Nat) (h1 : v / (P * 2) = n / (P * 2)) (h2 : v % P = n % P) (h3 : v ≠ n) : v = n + P ∨ v + P = n := by
  rw [← Nat.div_div_eq_div_mul, ← Nat.div_div_eq_div_mul] at h1
  have e1 := Nat.div_add_mod v P
  have e2 := Nat.div_add_mod n P
  rw [h2] at e1
  generalize v / P = x at *
  generalize n / P = y at *
  have hc : x = y ∨ x = y + 1 ∨ y = x + 1 := by omega
  rcases hc with rfl | rfl | rfl
  · omega
  · rw [Nat.mul_add, Nat.mul_one] at e1; omega
  · rw [Nat.mul_add, Nat.mul_one] at e2; omega
theorem pow32 : ∀ j : Fin 32, ((2 : Int) ^ j.val % 4294967296) = ((2 ^ j.val : Nat) : Int) ∧ 2 ^ j.val < 4294967296 ∧ 2 ^ j.val % 65535 ≠ 0 := by decide +kernel
theorem xor_tot (a : Int) (j : Nat) (ha : 0 ≤ a ∧ a ≤ 4294967295) (hj : j < 32) : ∃ v, bits .xor .u32 a (2 ^ j % 4294967296) = v ∧ (0 ≤ v ∧ v ≤ 4294967295) ∧ (v - a) % 65535 ≠ 0 := by
  obtain ⟨n, hn⟩ : ∃ n : Nat, a = n := ⟨a.toNat, by omega⟩
  subst hn
  obtain ⟨g1, g2, g3⟩ := xor_near n j
  obtain ⟨p1, p2, p3⟩ := pow32 ⟨j, hj⟩
  dsimp only at p1 p2 p3
  rw [p1, xor32_nat n (2 ^ j) (by omega) p2]
  have hl : n ^^^ 2 ^ j < 2 ^ 32 := Nat.xor_lt_two_pow (by omega) (by omega)
  rw [Nat.pow_succ] at g1
  have hn := near n (n ^^^ 2 ^ j) (2 ^ j) g1 g2 g3
  refine ⟨_, rfl, by omega, ?_⟩
  generalize n ^^^ 2 ^ j = v at *
  clear p1 g1 g2
  generalize 2 ^ j = P at *
  omega

theorem words_pseudo (a b n : Int) (k : Nat) (ha : 0 ≤ a ∧ a ≤ 4294967295) (hb : 0 ≤ b ∧ b ≤ 4294967295) (hn : 0 ≤ n ∧ n ≤ 65535) :
    words (pseudo a b n k) = [a / 65536, a % 65536, b / 65536, b % 65536, n, (k : Int) % 65536] := by
  have e : pseudo a b n k = putW [a / 65536, a % 65536, b / 65536, b % 65536, n, (k : Int) % 65536] := rfl
  rw [e]
  refine words_putW' ?_
  intro x hx
  simp only [List.mem_cons, List.not_mem_nil, or_false] at hx
  rcases hx with rfl | rfl | rfl | rfl | rfl | rfl <;> omega
/-- other ends of which one differs by what is no multiple of 65535 -/
theorem tcpOk_ends (a b c d : Int) (s : ByteArray) (ha : 0 ≤ a ∧ a ≤ 4294967295) (hb : 0 ≤ b ∧ b ≤ 4294967295) (hc : 0 ≤ c ∧ c ≤ 4294967295) (hd : 0 ≤ d ∧ d ≤ 4294967295)
    (h : tcpOk a b s = true) (hx : (c + d - (a + b)) % 65535 ≠ 0) : tcpOk c d s = false := by
  have h1 : holds [pseudo a b 6 s.size, L s] = true := by
    unfold tcpOk at h
    simp at h
    exact h.2
  have h2 := (holds_iff _).1 h1
  rw [Bool.eq_false_iff]
  intro h3
  have h4 : holds [pseudo c d 6 s.size, L s] = true := by
    unfold tcpOk at h3
    simp at h3
    exact h3.2
  have h5 := (holds_iff _).1 h4
  simp only [List.flatMap_cons, List.flatMap_nil, List.append_nil, tot_append, words_pseudo a b 6 s.size ha hb (by omega), words_pseudo c d 6 s.size hc hd (by omega), tot_cons, tot_nil] at h2 h5
  have q : ∀ x : Int, ∃ k, x / 65536 + x % 65536 = x - 65535 * k := fun x => ⟨x / 65536, by omega⟩
  obtain ⟨ka, qa⟩ := q a
  obtain ⟨kb, qb⟩ := q b
  obtain ⟨kc, qc⟩ := q c
  obtain ⟨kd, qd⟩ := q d
  have e2 := h2.1
  have e5 := h5.1
  clear h1 h2 h3 h4 h5 h q ha hb hc hd
  generalize (s.size : Int) % 65536 = n at *
  generalize tot (words (L s)) = T at *
  generalize a / 65536 = a1 at *
  generalize a % 65536 = a2 at *
  generalize b / 65536 = b1 at *
  generalize b % 65536 = b2 at *
  generalize c / 65536 = c1 at *
  generalize c % 65536 = c2 at *
  generalize d / 65536 = d1 at *
  generalize d % 65536 = d2 at *
  omega
end Go.Proofs.Ytlmpoikjjidgiaa
