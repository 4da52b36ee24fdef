/- Plain facts on numbers in texts: what is put is got. No program. -/
import Derived.Test.YtedfdphapcanoaaGreatDoorBase
namespace Go.Proofs.YtedfdphapcanoaaGreatDoor
open Go.RowKit

theorem Row.freshAt (w : World) (cs : Array Value) (T : TypeId) (g n : Nat) (xs : List Value) (hg : g = w.heap.size) (hn : cs.size = n) (hx : cs.toList = xs) : Row (w.alloc (.cells cs T)) (w.alloc (.cells cs T)).heap.size (some ⟨g, 0, none⟩) n xs := by
  subst hg; exact Row.freshN w cs T n xs hn hx
theorem cellAt {W W' : World} {p : Addr} {v : Value} (hb : Below W.heap.size W W') (h : W.cell? p = some v) : W'.cell? p = some v := (hb.cell (World.block_lt_of_cell? W p h)).trans h
theorem reach_max {n : Nat} (h : n ≤ 140737488351232) : n ≤ maxLen := by unfold maxLen; omega
theorem at_left {a b : List UInt8} {k : Nat} (h : k < a.length) : at_ (a ++ b) k = at_ a k := by
  unfold at_; rw [List.getD_eq_getElem?_getD, List.getD_eq_getElem?_getD, List.getElem?_append_left h]
theorem at_right {a b : List UInt8} {k : Nat} (h : a.length ≤ k) : at_ (a ++ b) k = at_ b (k - a.length) := by
  unfold at_; rw [List.getD_eq_getElem?_getD, List.getD_eq_getElem?_getD, List.getElem?_append_right h]
theorem at_take {a : List UInt8} {k n : Nat} (h : k < n) : at_ (a.take n) k = at_ a k := by
  unfold at_; rw [List.getD_eq_getElem?_getD, List.getD_eq_getElem?_getD, List.getElem?_take_of_lt h]
theorem at_drop {a : List UInt8} {k n : Nat} : at_ (a.drop n) k = at_ a (n + k) := by
  unfold at_; rw [List.getD_eq_getElem?_getD, List.getD_eq_getElem?_getD, List.getElem?_drop]
theorem at_cons0 (b : UInt8) (l : List UInt8) : at_ (b :: l) 0 = b.toNat := rfl
theorem at_cons1 (b : UInt8) (l : List UInt8) (k : Nat) : at_ (b :: l) (k + 1) = at_ l k := rfl

theorem be16_right {a b : List UInt8} {k : Nat} (h : a.length ≤ k) : be16 (a ++ b) k = be16 b (k - a.length) := by
  unfold be16; rw [at_right h, at_right (by omega), show k + 1 - a.length = k - a.length + 1 from by omega]
theorem be16_left {a b : List UInt8} {k : Nat} (h : k + 1 < a.length) : be16 (a ++ b) k = be16 a k := by
  unfold be16; rw [at_left (by omega), at_left h]
theorem be16_drop {a : List UInt8} {k n : Nat} : be16 (a.drop n) k = be16 a (n + k) := by
  unfold be16; rw [at_drop, at_drop, Nat.add_assoc]
theorem be16_take {a : List UInt8} {k n : Nat} (h : k + 1 < n) : be16 (a.take n) k = be16 a k := by
  unfold be16; rw [at_take (by omega), at_take h]
theorem be32_right {a b : List UInt8} {k : Nat} (h : a.length ≤ k) : be32 (a ++ b) k = be32 b (k - a.length) := by
  unfold be32; rw [be16_right h, be16_right (by omega), show k + 2 - a.length = k - a.length + 2 from by omega]
theorem be32_left {a b : List UInt8} {k : Nat} (h : k + 3 < a.length) : be32 (a ++ b) k = be32 a k := by
  unfold be32; rw [be16_left (by omega), be16_left (by omega)]
theorem be32_drop {a : List UInt8} {k n : Nat} : be32 (a.drop n) k = be32 a (n + k) := by
  unfold be32; rw [be16_drop, be16_drop, Nat.add_assoc]

theorem be16_put (n : Int) (r : List UInt8) (h0 : 0 ≤ n) (h1 : n ≤ 65535) : be16 (put16 n ++ r) 0 = n := by
  show ((byt (n / 256)).toNat : Int) * 256 + ((byt n).toNat : Int) = n
  rw [byt_int _ (by omega), byt_int _ h0]; omega
theorem be32_put (n : Int) (r : List UInt8) (h0 : 0 ≤ n) (h1 : n ≤ 4294967295) : be32 (put32 n ++ r) 0 = n := by
  unfold be32 put32
  rw [List.append_assoc, be16_put _ _ (by omega) (by omega), be16_right (by rw [put16_length]; omega), put16_length, be16_put _ _ (by omega) (by omega)]; omega
theorem be16_putW {l : List Int} (hb : ∀ x ∈ l, 0 ≤ x ∧ x ≤ 65535) (r : List UInt8) : ∀ {k : Nat}, k < l.length → be16 (putW l ++ r) (2 * k) = l.getD k 0 := by
  induction l with
  | nil => intro k hk; simp at hk
  | cons a l ih =>
    intro k hk
    have ha := hb a (by simp)
    show be16 ((put16 a ++ putW l) ++ r) (2 * k) = _
    rw [List.append_assoc]
    match k with
    | 0 => exact be16_put a _ ha.1 ha.2
    | k + 1 =>
      rw [be16_right (by rw [put16_length]; omega), put16_length, show 2 * (k + 1) - 2 = 2 * k from by omega]
      exact ih (fun x hx => hb x (by simp [hx])) (by simpa using hk)
theorem has_true {n i m : Int} (h0 : 0 ≤ i) (h1 : i + m ≤ n) : has n i m = true := by simp [has]; omega
theorem has_false {n i m : Int} (h : i < 0 ∨ n < i + m) : has n i m = false := by simp [has]; omega

/-! ### With -/
theorem putAt_in {l p : List UInt8} {k : Nat} (h : k + p.length ≤ l.length) : putAt l k p = l.take k ++ (p ++ l.drop (k + p.length)) := by
  unfold putAt; rw [if_pos (has_true (by omega) (by omega))]; rfl
theorem putAt_out {l p : List UInt8} {i : Int} (h : has l.length i p.length = false) : putAt l i p = [] := by
  unfold putAt; rw [if_neg (by simp [h])]
theorem putAt_length {l p : List UInt8} {k : Nat} (h : k + p.length ≤ l.length) : (putAt l k p).length = l.length := by
  rw [putAt_in h]; simp; omega
theorem putAt_take {l p : List UInt8} {k : Nat} (h : k + p.length ≤ l.length) : (putAt l k p).take k = l.take k := by
  rw [putAt_in h, List.take_append_of_le_length (by simp; omega), List.take_take, Nat.min_self]
theorem putAt_drop {l p : List UInt8} {k : Nat} (h : k + p.length ≤ l.length) : (putAt l k p).drop k = p ++ l.drop (k + p.length) := by
  rw [putAt_in h, List.drop_append_of_le_length (by simp; omega), List.drop_eq_nil_of_le (by simp; omega), List.nil_append]
theorem putAt_mid {l p : List UInt8} {k : Nat} (h : k + p.length ≤ l.length) : ((putAt l k p).drop k).take p.length = p := by
  rw [putAt_drop h, List.take_left]
theorem putAt_end {l p : List UInt8} {k : Nat} (h : k + p.length ≤ l.length) : (putAt l k p).drop (k + p.length) = l.drop (k + p.length) := by
  rw [← List.drop_drop, putAt_drop h, List.drop_left]
theorem putAt_back {l p : List UInt8} {k : Nat} (h : k + p.length ≤ l.length) : putAt (putAt l k p) k ((l.drop k).take p.length) = l := by
  have hq : ((l.drop k).take p.length).length = p.length := by simp; omega
  rw [putAt_in (by rw [hq, putAt_length h]; exact h), hq, putAt_take h, putAt_end h, ← List.drop_drop, List.take_append_drop, List.take_append_drop]
end Go.Proofs.YtedfdphapcanoaaGreatDoor
