/- Several texts of this claim, one behind the other. -/
import Derived.Test.YtilfcikhipadpaaGreatDoorK9
import Derived.Laws.Strings

section
/- Plain facts on sums: what a fold of 'add, what runs over coming in again' comes to. No program. -/
set_option linter.unusedVariables false
namespace Go.Proofs.YtilfcikhipadpaaGreatDoor
open Go.RowKit

def tot (l : List Int) : Int := l.foldr (· + ·) 0
theorem tot_cons (x : Int) (l : List Int) : tot (x :: l) = x + tot l := rfl
theorem tot_nonneg {l : List Int} (h : ∀ x ∈ l, 0 ≤ x ∧ x ≤ 65535) : 0 ≤ tot l := by
  induction l with
  | nil => simp [tot]
  | cons x l ih => have := ih (fun y hy => h y (by simp [hy])); have := h x (by simp); rw [tot_cons]; omega
/-- the one number of 0 to 65535 that a sum comes to -/
def rep (t : Int) : Int := if t = 0 then 0 else (t - 1) % 65535 + 1
theorem add1_rep {t x : Int} (ht : 0 ≤ t) (hx : 0 ≤ x ∧ x ≤ 65535) : add1 (rep t) x = rep (t + x) := by
  unfold add1 rep
  split <;> split <;> split <;> omega
theorem fold1_rep : ∀ (l : List Int) (t : Int), 0 ≤ t → (∀ x ∈ l, 0 ≤ x ∧ x ≤ 65535) → fold1 (rep t) l = rep (t + tot l)
  | [], t, _, _ => by simp [fold1, tot]
  | x :: l, t, ht, hl => by
    have hx := hl x (by simp)
    show fold1 (add1 (rep t) x) l = _
    rw [add1_rep ht hx, fold1_rep l (t + x) (by omega) (fun y hy => hl y (by simp [hy])), tot_cons, Int.add_assoc]
theorem fold1_zero {l : List Int} (hl : ∀ x ∈ l, 0 ≤ x ∧ x ≤ 65535) : fold1 0 l = rep (tot l) := by
  have := fold1_rep l 0 (by omega) hl
  simpa [rep] using this
theorem sumL_rep (ls : List (List UInt8)) : sumL ls = 65535 - rep (tot (ls.flatMap words)) := by
  unfold sumL; rw [fold1_zero (flat_bd ls)]

theorem words_put (n : Int) (r : List UInt8) (h : 0 ≤ n ∧ n ≤ 65535) : words (put16 n ++ r) = n :: words r := by
  show (((byt (n / 256)).toNat : Int) * 256 + ((byt n).toNat : Int)) :: words r = _
  rw [byt_int _ (by omega), byt_int _ (by omega)]
  congr 1; omega
/-! ### both bytes of each word change places -/
/-! ### updates -/
theorem upd_mod {n a b : Int} (hn : 0 ≤ n ∧ n ≤ 65535) (ha : 0 ≤ a ∧ a ≤ 65535) (hb : 0 ≤ b ∧ b ≤ 65535) : (upd n a b - (n + a - b)) % 65535 = 0 := by
  unfold upd add1
  split <;> split <;> omega
theorem updF_mod : ∀ (l : List (Int × Int)) (n : Int), 0 ≤ n ∧ n ≤ 65535 → (∀ p ∈ l, (0 ≤ p.1 ∧ p.1 ≤ 65535) ∧ (0 ≤ p.2 ∧ p.2 ≤ 65535)) → (updF n l - (n + tot (l.map (·.1)) - tot (l.map (·.2)))) % 65535 = 0
  | [], n, _, _ => by simp [updF, tot]
  | p :: l, n, hn, hl => by
    have hp := hl p (by simp)
    have h1 := upd_mod hn hp.1 hp.2
    have h2 := updF_mod l (upd n p.1 p.2) (upd_bd hn hp.1 hp.2) (fun q hq => hl q (by simp [hq]))
    show (updF (upd n p.1 p.2) l - _) % 65535 = 0
    rw [List.map_cons, List.map_cons, tot_cons, tot_cons]
    omega
theorem zip_fst : ∀ {a b : List Int}, a.length = b.length → (a.zip b).map (·.1) = a
  | [], [], _ => rfl
  | x :: a, y :: b, h => by simp only [List.zip_cons_cons, List.map_cons, zip_fst (show a.length = b.length by simpa using h)]
theorem zip_snd : ∀ {a b : List Int}, a.length = b.length → (a.zip b).map (·.2) = b
  | [], [], _ => rfl
  | x :: a, y :: b, h => by simp only [List.zip_cons_cons, List.map_cons, zip_snd (show a.length = b.length by simpa using h)]
theorem updates_bd {n : Int} {a b : List UInt8} (hn : 0 ≤ n ∧ n ≤ 65535) : 0 ≤ updates n a b ∧ updates n a b ≤ 65535 := by
  unfold updates
  split
  · exact hn
  · exact updF_bd _ n hn zip_bd
end Go.Proofs.YtilfcikhipadpaaGreatDoor
end

section
/- Plain facts on sums: a text that is sealed holds; with one bit turned it does not. No program. -/
set_option linter.unusedVariables false
namespace Go.Proofs.YtilfcikhipadpaaGreatDoor
open Go.RowKit

theorem holds_iff (ls : List (List UInt8)) : holds ls = true ↔ tot (ls.flatMap words) % 65535 = 0 ∧ tot (ls.flatMap words) ≠ 0 := by
  have h := tot_nonneg (flat_bd ls)
  unfold holds
  rw [sumL_rep, beq_iff_eq]
  unfold rep
  split <;> omega
/-- a number with one bit turned -/
def fl (a : Int) (j : Nat) : Int := if a / 2 ^ j % 2 = 0 then a + 2 ^ j else a - 2 ^ j
/-! ### a sum in its place -/
def lay (l : List UInt8) (k : Nat) (n : Int) : List UInt8 := l.take k ++ put16 n ++ l.drop (k + 2)
theorem lay_length {l : List UInt8} {k : Nat} {n : Int} (h : k + 2 ≤ l.length) : (lay l k n).length = l.length := by
  unfold lay; simp [put16]; omega
theorem lay_take {l : List UInt8} {k : Nat} {n : Int} (h : k + 2 ≤ l.length) : (lay l k n).take k = l.take k := by
  unfold lay
  rw [List.append_assoc, List.take_append_of_le_length (by simp; omega), List.take_take, Nat.min_self]
theorem lay_rest {l : List UInt8} {k : Nat} {n : Int} (h : k + 2 ≤ l.length) : (lay l k n).drop k = put16 n ++ l.drop (k + 2) := by
  unfold lay
  rw [List.append_assoc, List.drop_append_of_le_length (by simp; omega), List.drop_eq_nil_of_le (by simp; omega), List.nil_append]
theorem lay_drop {l : List UInt8} {k : Nat} {n : Int} (h : k + 2 ≤ l.length) : (lay l k n).drop (k + 2) = l.drop (k + 2) := by
  rw [← List.drop_drop, lay_rest h]; rfl
theorem lay_lay {l : List UInt8} {k : Nat} {n m : Int} (h : k + 2 ≤ l.length) : lay (lay l k n) k m = lay l k m := by
  show (lay l k n).take k ++ put16 m ++ (lay l k n).drop (k + 2) = _
  rw [lay_take h, lay_drop h]; rfl
theorem lay_at {l : List UInt8} {k : Nat} {n : Int} (h : k + 2 ≤ l.length) (hn : 0 ≤ n ∧ n ≤ 65535) : be16 (lay l k n) k = n := by
  have e : be16 ((lay l k n).drop k) 0 = n := by rw [lay_rest h]; exact be16_put n _ hn.1 hn.2
  rwa [be16_drop] at e
theorem lay_other {l : List UInt8} {k i : Nat} {n : Int} (h : k + 2 ≤ l.length) (hi : i + 1 < k ∨ k + 2 ≤ i) : be16 (lay l k n) i = be16 l i := by
  rcases hi with hi | hi
  · rw [← be16_take (n := k) hi, lay_take h, be16_take hi]
  · have e1 : be16 ((lay l k n).drop (k + 2)) (i - (k + 2)) = be16 (l.drop (k + 2)) (i - (k + 2)) := by rw [lay_drop h]
    rw [be16_drop, be16_drop] at e1
    rwa [show k + 2 + (i - (k + 2)) = i from by omega] at e1
end Go.Proofs.YtilfcikhipadpaaGreatDoor
end

section
/- How texts are compared in a walk. No program. -/
set_option linter.unusedVariables false
namespace Go.Proofs.YtilfcikhipadpaaGreatDoor
open Go.RowKit

theorem toList_inj {s t : ByteArray} (h : s.toList = t.toList) : s = t := by
  rw [ByteArray.toList_eq, ByteArray.toList_eq] at h
  exact L_inj h
end Go.Proofs.YtilfcikhipadpaaGreatDoor
end
