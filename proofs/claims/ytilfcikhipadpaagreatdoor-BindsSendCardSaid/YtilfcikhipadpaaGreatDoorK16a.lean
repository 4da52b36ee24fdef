/- Several texts of this claim, one behind the other. -/
import Derived.Test.YtilfcikhipadpaaGreatDoorK15a
import Derived.Deep.RegionHeldLaw
import Derived.Deep.RegionHeld3

section
/- Plain facts on sums: a text that is sealed holds; with one bit turned it does not. No program. -/
set_option linter.unusedVariables false
namespace Go.Proofs.YtilfcikhipadpaaGreatDoor
open Go.RowKit

theorem holds_iff (ls : List (List UInt8)) : holds ls = true ↔ tot (ls.flatMap words) % 65535 = 0 ∧ tot (ls.flatMap words) ≠ 0 := by
  have h := tot_nonneg (flat_bd ls)
  unfold holds
  rw [sumL_rep, beq_iff_eq]
  unfold rep
  split <;> omega
/-- a number with one bit turned -/
def fl (a : Int) (j : Nat) : Int := if a / 2 ^ j % 2 = 0 then a + 2 ^ j else a - 2 ^ j
/-! ### a sum in its place -/
def lay (l : List UInt8) (k : Nat) (n : Int) : List UInt8 := l.take k ++ put16 n ++ l.drop (k + 2)
theorem lay_length {l : List UInt8} {k : Nat} {n : Int} (h : k + 2 ≤ l.length) : (lay l k n).length = l.length := by
  unfold lay; simp [put16]; omega
theorem lay_take {l : List UInt8} {k : Nat} {n : Int} (h : k + 2 ≤ l.length) : (lay l k n).take k = l.take k := by
  unfold lay
  rw [List.append_assoc, List.take_append_of_le_length (by simp; omega), List.take_take, Nat.min_self]
theorem lay_rest {l : List UInt8} {k : Nat} {n : Int} (h : k + 2 ≤ l.length) : (lay l k n).drop k = put16 n ++ l.drop (k + 2) := by
  unfold lay
  rw [List.append_assoc, List.drop_append_of_le_length (by simp; omega), List.drop_eq_nil_of_le (by simp; omega), List.nil_append]
theorem lay_drop {l : List UInt8} {k : Nat} {n : Int} (h : k + 2 ≤ l.length) : (lay l k n).drop (k + 2) = l.drop (k + 2) := by
  rw [← List.drop_drop, lay_rest h]; rfl
theorem lay_lay {l : List UInt8} {k : Nat} {n m : Int} (h : k + 2 ≤ l.length) : lay (lay l k n) k m = lay l k m := by
  show (lay l k n).take k ++ put16 m ++ (lay l k n).drop (k + 2) = _
  rw [lay_take h, lay_drop h]; rfl
theorem lay_at {l : List UInt8} {k : Nat} {n : Int} (h : k + 2 ≤ l.length) (hn : 0 ≤ n ∧ n ≤ 65535) : be16 (lay l k n) k = n := by
  have e : be16 ((lay l k n).drop k) 0 = n := by rw [lay_rest h]; exact be16_put n _ hn.1 hn.2
  rwa [be16_drop] at e
theorem lay_other {l : List UInt8} {k i : Nat} {n : Int} (h : k + 2 ≤ l.length) (hi : i + 1 < k ∨ k + 2 ≤ i) : be16 (lay l k n) i = be16 l i := by
  rcases hi with hi | hi
  · rw [← be16_take (n := k) hi, lay_take h, be16_take hi]
  · have e1 : be16 ((lay l k n).drop (k + 2)) (i - (k + 2)) = be16 (l.drop (k + 2)) (i - (k + 2)) := by rw [lay_drop h]
    rw [be16_drop, be16_drop] at e1
    rwa [show k + 2 + (i - (k + 2)) = i from by omega] at e1
end Go.Proofs.YtilfcikhipadpaaGreatDoor
end

section
/- A number laid into its place in a text, by the program's With and Word. -/
set_option linter.unusedVariables false
namespace Go.Proofs.YtilfcikhipadpaaGreatDoor
open Go.RowKit

end Go.Proofs.YtilfcikhipadpaaGreatDoor
end

section
/- tcp's sums over this program, and the document's. -/
set_option linter.unusedVariables false
namespace Go.Proofs.YtilfcikhipadpaaGreatDoor
open Go.RowKit
attribute [local go_sem] Oper.semAt_some

def tcpSum (a b : Int) (l : List UInt8) : Int := sumL [pseudo a b 6 l.length, lay l 16 0]
def tcpSeal (a b : Int) (l : List UInt8) : List UInt8 := if l.length < 20 then l else lay l 16 (tcpSum a b l)
theorem tcpSum_bd (a b : Int) (l : List UInt8) : 0 ≤ tcpSum a b l ∧ tcpSum a b l ≤ 65535 := sumL_bd _

end Go.Proofs.YtilfcikhipadpaaGreatDoor
end

section
/- tcp.Parse of what is no segment; tcp.Put. -/
set_option linter.unusedVariables false
namespace Go.Proofs.YtilfcikhipadpaaGreatDoor
open Go.RowKit
attribute [local go_sem] Oper.semAt_some

/-- how many bytes a segment's header has -/
def tcpOwn (l : List UInt8) : Int := at_ l 12 / 16 * 4
/-- is it a segment -/
def tcpIs (s : ByteArray) : Bool := decide (20 ≤ s.size) && decide (20 ≤ tcpOwn (L s)) && decide (tcpOwn (L s) ≤ s.size)

end Go.Proofs.YtilfcikhipadpaaGreatDoor
end
