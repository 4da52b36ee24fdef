/- Plain laws: of the number of a tuple each byte counts. -/
import Derived.Test.YtcghhnehmddoeaaHash2
set_option linter.unusedVariables false
namespace Go.Proofs.Ytcghhnehmddoeaa
open Go.RowKit

theorem add32_inj_l {a b c : Int} (ha : 0 ≤ a ∧ a < 4294967296) (hb : 0 ≤ b ∧ b < 4294967296) (h : add32 a c = add32 b c) : a = b := by
  unfold add32 at h; omega
theorem add32_inj_r {a b c : Int} (ha : 0 ≤ a ∧ a < 4294967296) (hb : 0 ≤ b ∧ b < 4294967296) (h : add32 c a = add32 c b) : a = b := by
  unfold add32 at h; omega
theorem inv9 (a : Int) (h0 : 0 ≤ a) (h1 : a < 4294967296) : ((a + a * 8) % 4294967296 * 954437177) % 4294967296 = a := by omega
theorem mulUp_inj8 {a b : Int} (ha : 0 ≤ a ∧ a < 4294967296) (hb : 0 ≤ b ∧ b < 4294967296) (h : mulUp a 8 = mulUp b 8) : a = b := by
  unfold mulUp add32 at h
  rw [← inv9 a ha.1 ha.2, h, inv9 b hb.1 hb.2]
theorem mulUp_inj1024 {a b : Int} (ha : 0 ≤ a ∧ a < 4294967296) (hb : 0 ≤ b ∧ b < 4294967296) (h : mulUp a 1024 = mulUp b 1024) : a = b := by
  unfold mulUp add32 at h; omega
theorem mulUp_inj32768 {a b : Int} (ha : 0 ≤ a ∧ a < 4294967296) (hb : 0 ≤ b ∧ b < 4294967296) (h : mulUp a 32768 = mulUp b 32768) : a = b := by
  unfold mulUp add32 at h; omega

theorem shift_inj {s : Nat} (hs : 0 < s) {a b : Nat} (h : a ^^^ (a / 2 ^ s) = b ^^^ (b / 2 ^ s)) : a = b := by
  have key : ∀ d i, (∀ x : Nat, x < 2 ^ 64 → True) → 64 ≤ i + d + 0 → True := fun _ _ _ _ => trivial
  apply Nat.eq_of_testBit_eq
  have ht : ∀ i, (a.testBit i ^^ a.testBit (i + s)) = (b.testBit i ^^ b.testBit (i + s)) := by
    intro i
    have := congrArg (fun n => n.testBit i) h
    simpa [Nat.testBit_xor, Nat.testBit_div_two_pow, Nat.add_comm] using this
  -- from the top down
  have hup : ∃ m, ∀ i, m ≤ i → a.testBit i = b.testBit i := by
    refine ⟨a + b, fun i hi => ?_⟩
    rw [Nat.testBit_lt_two_pow (Nat.lt_of_le_of_lt (show a ≤ i by omega) Nat.lt_two_pow_self), Nat.testBit_lt_two_pow (Nat.lt_of_le_of_lt (show b ≤ i by omega) Nat.lt_two_pow_self)]
  obtain ⟨m, hm⟩ := hup
  have hall : ∀ d i, m ≤ i + d → a.testBit i = b.testBit i := by
    intro d
    induction d with
    | zero => exact fun i h => hm i (by omega)
    | succ d ih =>
      intro i hi
      have h1 := ih (i + s) (by omega)
      have h2 := ht i
      rw [h1] at h2
      cases ha : a.testBit i <;> cases hb : b.testBit i <;> cases hc : b.testBit (i + s) <;> simp_all
  exact fun i => hall m i (by omega)

theorem toNat_ediv_pow {n : Int} (h : 0 ≤ n) (s : Nat) : (n / ((2 ^ s : Nat) : Int)).toNat = n.toNat / 2 ^ s := by
  obtain ⟨k, rfl⟩ : ∃ k : Nat, n = k := ⟨n.toNat, by omega⟩
  rw [← Int.natCast_ediv, Int.toNat_natCast, Int.toNat_natCast]

theorem xorDn_inj {s : Nat} (hs : 0 < s) {a b : Int} (ha : 0 ≤ a ∧ a < 4294967296) (hb : 0 ≤ b ∧ b < 4294967296) (h : xorDn a ((2 ^ s : Nat) : Int) = xorDn b ((2 ^ s : Nat) : Int)) : a = b := by
  unfold xorDn xor_ at h
  rw [toNat_ediv_pow ha.1, toNat_ediv_pow hb.1] at h
  have := shift_inj hs (a := a.toNat) (b := b.toNat) (by exact_mod_cast h)
  omega

theorem mix_inj_l {a b c : Int} (ha : 0 ≤ a ∧ a < 4294967296) (hb : 0 ≤ b ∧ b < 4294967296) (h : mix a c = mix b c) : a = b :=
  add32_inj_l ha hb (mulUp_inj1024 (add32_bd _ _) (add32_bd _ _) (xorDn_inj (s := 6) (by omega) (mulUp_bd _ _) (mulUp_bd _ _) h))
theorem mix_inj_r {a b c : Int} (ha : 0 ≤ a ∧ a < 4294967296) (hb : 0 ≤ b ∧ b < 4294967296) (h : mix c a = mix c b) : a = b :=
  add32_inj_r ha hb (mulUp_inj1024 (add32_bd _ _) (add32_bd _ _) (xorDn_inj (s := 6) (by omega) (mulUp_bd _ _) (mulUp_bd _ _) h))
theorem fin_inj {a b : Int} (ha : 0 ≤ a ∧ a < 4294967296) (hb : 0 ≤ b ∧ b < 4294967296) (h : fin_ a = fin_ b) : a = b :=
  mulUp_inj8 ha hb (xorDn_inj (s := 11) (by omega) (mulUp_bd _ _) (mulUp_bd _ _) (mulUp_inj32768 (xorDn_bd (mulUp_bd _ _) (by omega)) (xorDn_bd (mulUp_bd _ _) (by omega)) h))

theorem foldl_mix_inj (l : List Int) : ∀ {a b : Int}, 0 ≤ a ∧ a < 4294967296 → 0 ≤ b ∧ b < 4294967296 → l.foldl mix a = l.foldl mix b → a = b := by
  induction l with
  | nil => exact fun _ _ h => h
  | cons x l ih => exact fun ha hb h => mix_inj_l ha hb (ih (mix_bd _ _) (mix_bd _ _) h)

/-- two rows of bytes that are unlike in one place at most: alike just if their numbers are -/
theorem fold_one (p q : List Int) {x y : Int} (hx : 0 ≤ x ∧ x ≤ 255) (hy : 0 ≤ y ∧ y ≤ 255) : (p ++ x :: q).foldl mix 0 = (p ++ y :: q).foldl mix 0 ↔ x = y := by
  constructor
  · intro h
    rw [List.foldl_append, List.foldl_append, List.foldl_cons, List.foldl_cons] at h
    exact mix_inj_r (by omega) (by omega) (foldl_mix_inj q (mix_bd _ _) (mix_bd _ _) h)
  · rintro rfl; rfl

theorem num_one {t u : Tup} (p q : List Int) {x y : Int} (ht : t.all = p ++ x :: q) (hu : u.all = p ++ y :: q) (hx : 0 ≤ x ∧ x ≤ 255) (hy : 0 ≤ y ∧ y ≤ 255) : t.num = u.num ↔ x = y := by
  rw [← fold_one p q hx hy, ← ht, ← hu]
  constructor
  · exact fun h => fin_inj (foldl_mix_bd _ 0 (by omega)) (foldl_mix_bd _ 0 (by omega)) h
  · intro h; unfold Tup.num; rw [h]
end Go.Proofs.Ytcghhnehmddoeaa
