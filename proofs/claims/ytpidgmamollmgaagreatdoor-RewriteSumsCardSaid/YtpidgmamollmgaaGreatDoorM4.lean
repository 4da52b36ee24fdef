/- Several texts of this claim, one behind the other. -/
import Derived.Test.YtpidgmamollmgaaGreatDoorM3
import Derived.Test.YtpidgmamollmgaaGreatDoorM1

section
/- Plain facts on sums: a text that is sealed holds; with one bit turned it does not. No program. -/
set_option linter.unusedVariables false
namespace Go.Proofs.YtpidgmamollmgaaGreatDoor
open Go.RowKit

theorem holds_iff (ls : List (List UInt8)) : holds ls = true ↔ tot (ls.flatMap words) % 65535 = 0 ∧ tot (ls.flatMap words) ≠ 0 := by
  have h := tot_nonneg (flat_bd ls)
  unfold holds
  rw [sumL_rep, beq_iff_eq]
  unfold rep
  split <;> omega
theorem words_even : ∀ (a b : List UInt8), a.length % 2 = 0 → words (a ++ b) = words a ++ words b
  | [], b, _ => rfl
  | [x], b, h => by simp at h
  | x :: y :: t, b, h => by
    show _ :: words (t ++ b) = _ :: (words t ++ words b)
    rw [words_even t b (by simp at h; omega)]
theorem tot_set : ∀ (l : List UInt8) (i : Nat) (x : UInt8), i < l.length →
    tot (words (l.set i x)) = tot (words l) + ((x.toNat : Int) - at_ l i) * (if i % 2 = 0 then 256 else 1)
  | [], i, x, h => by simp at h
  | [a], i, x, h => by
    have : i = 0 := by simp at h; omega
    subst this
    simp [words, tot, at_]; omega
  | a :: b :: t, 0, x, h => by
    show ((x.toNat : Int) * 256 + (b.toNat : Int)) + tot (words t) = ((a.toNat : Int) * 256 + (b.toNat : Int)) + tot (words t) + ((x.toNat : Int) - (a.toNat : Int)) * 256
    omega
  | a :: b :: t, 1, x, h => by
    show ((a.toNat : Int) * 256 + (x.toNat : Int)) + tot (words t) = ((a.toNat : Int) * 256 + (b.toNat : Int)) + tot (words t) + ((x.toNat : Int) - (b.toNat : Int)) * 1
    omega
  | a :: b :: t, i + 2, x, h => by
    have ih := tot_set t i x (by simp at h; omega)
    show _ + tot (words (t.set i x)) = _ + tot (words t) + ((x.toNat : Int) - at_ t i) * (if (i + 2) % 2 = 0 then 256 else 1)
    rw [ih, show (i + 2) % 2 = i % 2 from by omega]; omega

/-- a number with one bit turned -/
def fl (a : Int) (j : Nat) : Int := if a / 2 ^ j % 2 = 0 then a + 2 ^ j else a - 2 ^ j
theorem fl_eq (a : Int) (j : Nat) : fl a j = a + 2 ^ j ∨ fl a j = a - 2 ^ j := by unfold fl; split <;> simp
theorem lt8 {j : Nat} (h : j < 8) : j = 0 ∨ j = 1 ∨ j = 2 ∨ j = 3 ∨ j = 4 ∨ j = 5 ∨ j = 6 ∨ j = 7 := by omega
theorem fl_bd {a : Int} {j : Nat} (ha : 0 ≤ a ∧ a ≤ 255) (hj : j < 8) : 0 ≤ fl a j ∧ fl a j ≤ 255 := by
  unfold fl
  rcases lt8 hj with rfl | rfl | rfl | rfl | rfl | rfl | rfl | rfl <;> simp only [Int.reducePow, Int.pow_zero] <;> split <;> omega
theorem xor_fin : ∀ (x : Fin 256) (j : Fin 8), bits .xor .u8 ((x.val : Nat) : Int) (2 ^ j.val % 256) = fl ((x.val : Nat) : Int) j.val := by decide +kernel
theorem xor_fl {x : Int} {j : Nat} (hx : 0 ≤ x ∧ x ≤ 255) (hj : j < 8) : bits .xor .u8 x (2 ^ j % 256) = fl x j := by
  have h := xor_fin ⟨x.toNat, by omega⟩ ⟨j, hj⟩
  simp only [Int.toNat_of_nonneg hx.1] at h
  exact h
/-- a text with bit k turned -/
def flip (l : List UInt8) (k : Nat) : List UInt8 := l.set (k / 8) (byt (fl (at_ l (k / 8)) (k % 8)))
theorem flip_length (l : List UInt8) (k : Nat) : (flip l k).length = l.length := by simp [flip]
theorem flip_tot (l : List UInt8) (k : Nat) (h : k < 8 * l.length) : (tot (words (flip l k)) - tot (words l)) % 65535 ≠ 0 := by
  have hb := fl_bd (at_bd l (k / 8)) (show k % 8 < 8 by omega)
  unfold flip
  rw [tot_set _ _ _ (by omega), byt_int _ hb.1]
  have he := fl_eq (at_ l (k / 8)) (k % 8)
  obtain ⟨j, hj⟩ : ∃ j, j = k % 8 := ⟨_, rfl⟩
  rw [← hj] at he hb ⊢
  generalize fl (at_ l (k / 8)) j = y at *
  generalize at_ l (k / 8) = x at *
  rcases lt8 (show j < 8 by omega) with rfl | rfl | rfl | rfl | rfl | rfl | rfl | rfl <;> simp only [Int.reducePow, Int.pow_zero] at he <;> split <;> omega

theorem holds_flip (ps : List (List UInt8)) (l : List UInt8) (k : Nat) (hk : k < 8 * l.length) (h : holds (ps ++ [l]) = true) : holds (ps ++ [flip l k]) = false := by
  have h1 := (holds_iff _).1 h
  have h2 := flip_tot l k hk
  rw [Bool.eq_false_iff]
  intro h3
  have h4 := (holds_iff _).1 h3
  simp only [List.flatMap_append, List.flatMap_cons, List.flatMap_nil, List.append_nil, tot_append] at h1 h4
  omega

/-! ### a sum in its place -/
def lay (l : List UInt8) (k : Nat) (n : Int) : List UInt8 := l.take k ++ put16 n ++ l.drop (k + 2)
theorem lay_length {l : List UInt8} {k : Nat} {n : Int} (h : k + 2 ≤ l.length) : (lay l k n).length = l.length := by
  unfold lay; simp [put16]; omega
theorem lay_take {l : List UInt8} {k : Nat} {n : Int} (h : k + 2 ≤ l.length) : (lay l k n).take k = l.take k := by
  unfold lay
  rw [List.append_assoc, List.take_append_of_le_length (by simp; omega), List.take_take, Nat.min_self]
theorem lay_rest {l : List UInt8} {k : Nat} {n : Int} (h : k + 2 ≤ l.length) : (lay l k n).drop k = put16 n ++ l.drop (k + 2) := by
  unfold lay
  rw [List.append_assoc, List.drop_append_of_le_length (by simp; omega), List.drop_eq_nil_of_le (by simp; omega), List.nil_append]
theorem lay_mid {l : List UInt8} {k : Nat} {n : Int} (h : k + 2 ≤ l.length) : ((lay l k n).drop k).take 2 = put16 n := by
  rw [lay_rest h]; rfl
theorem lay_drop {l : List UInt8} {k : Nat} {n : Int} (h : k + 2 ≤ l.length) : (lay l k n).drop (k + 2) = l.drop (k + 2) := by
  rw [← List.drop_drop, lay_rest h]; rfl
theorem lay_lay {l : List UInt8} {k : Nat} {n m : Int} (h : k + 2 ≤ l.length) : lay (lay l k n) k m = lay l k m := by
  show (lay l k n).take k ++ put16 m ++ (lay l k n).drop (k + 2) = _
  rw [lay_take h, lay_drop h]; rfl
theorem lay_at {l : List UInt8} {k : Nat} {n : Int} (h : k + 2 ≤ l.length) (hn : 0 ≤ n ∧ n ≤ 65535) : be16 (lay l k n) k = n := by
  have e : be16 ((lay l k n).drop k) 0 = n := by rw [lay_rest h]; exact be16_put n _ hn.1 hn.2
  rwa [be16_drop] at e
theorem lay_other {l : List UInt8} {k i : Nat} {n : Int} (h : k + 2 ≤ l.length) (hi : i + 1 < k ∨ k + 2 ≤ i) : be16 (lay l k n) i = be16 l i := by
  rcases hi with hi | hi
  · rw [← be16_take (n := k) hi, lay_take h, be16_take hi]
  · have e1 : be16 ((lay l k n).drop (k + 2)) (i - (k + 2)) = be16 (l.drop (k + 2)) (i - (k + 2)) := by rw [lay_drop h]
    rw [be16_drop, be16_drop] at e1
    rwa [show k + 2 + (i - (k + 2)) = i from by omega] at e1
theorem lay_tot {l : List UInt8} {k : Nat} {n : Int} (h : k + 2 ≤ l.length) (h2 : k % 2 = 0) (hn : 0 ≤ n ∧ n ≤ 65535) : tot (words (lay l k n)) = tot (words (lay l k 0)) + n := by
  have hz : (l.take k).length % 2 = 0 := by simp; omega
  unfold lay
  rw [List.append_assoc, List.append_assoc, words_even _ _ hz, words_even _ _ hz, words_put n _ hn, words_put 0 _ (by omega), tot_append, tot_append, tot_cons, tot_cons]; omega
/-- what is sealed holds -/
theorem lay_holds (ps : List (List UInt8)) {l : List UInt8} {k : Nat} {n : Int} (h : k + 2 ≤ l.length) (h2 : k % 2 = 0) (hn : n = sumL (ps ++ [lay l k 0]) ∨ n = 65535 ∧ sumL (ps ++ [lay l k 0]) = 0)
    : holds (ps ++ [lay l k n]) = true := by
  have hb := sumL_bd (ps ++ [lay l k 0])
  have hnb : 0 ≤ n ∧ n ≤ 65535 := by omega
  rw [holds_iff]
  have hr := sumL_rep (ps ++ [lay l k 0])
  have hp := tot_nonneg (flat_bd (ps ++ [lay l k 0]))
  have hm := rep_mod hp
  have hz : rep 0 = 0 := rfl
  simp only [List.flatMap_append, List.flatMap_cons, List.flatMap_nil, List.append_nil, tot_append] at hr hm hp ⊢
  rw [lay_tot h h2 hnb, ← Int.add_assoc]
  generalize tot (ps.flatMap words) + tot (words (lay l k 0)) = T at *
  have hT : T = 0 → rep T = 0 := fun e => by rw [e]; rfl
  omega
end Go.Proofs.YtpidgmamollmgaaGreatDoor
end

section
/- Blocks that are known whole, rows of the call's own: words for the walks. No program. -/
set_option linter.unusedVariables false
namespace Go.Proofs.YtpidgmamollmgaaGreatDoor
open Go.RowKit

/-- a block that holds these cells, none of them frozen -/
def Cells (w : World) (b : Nat) (cs : Array Value) (T : TypeId) : Prop := w.heap[b]? = some (.cells cs T (0, 0))
theorem Cells.new (w : World) (cs : Array Value) (T : TypeId) : Cells (w.alloc (.cells cs T)) w.heap.size cs T := heap_alloc_new w _
theorem Cells.below {w w' : World} {b : Nat} {cs : Array Value} {T : TypeId} (k : Below w.heap.size w w') (h : Cells w b cs T) : Cells w' b cs T := (k.block b (Array.getElem?_eq_some_iff.1 h).1).trans h
theorem Cells.at_ {w : World} {b : Nat} {cs : Array Value} {T : TypeId} (h : Cells w b cs T) (j : Nat) : w.cell? ⟨b, j, none⟩ = cs[j]? := Lib.cell_of_heap h j
theorem Cells.free {w : World} {b : Nat} {cs : Array Value} {T : TypeId} (h : Cells w b cs T) (j : Nat) : w.frozen? ⟨b, j, none⟩ = false := by simp [World.frozen?, show w.heap[b]? = _ from h]
theorem Cells.four {w : World} {b : Nat} {v0 v1 v2 v3 : Value} {T : TypeId} (h : Cells w b #[v0, v1, v2, v3] T) :
    (w.cell? ⟨b, 0, none⟩ = some v0 ∧ w.cell? ⟨b, 1, none⟩ = some v1 ∧ w.cell? ⟨b, 2, none⟩ = some v2 ∧ w.cell? ⟨b, 3, none⟩ = some v3) ∧
    (w.frozen? ⟨b, 0, none⟩ = false ∧ w.frozen? ⟨b, 1, none⟩ = false ∧ w.frozen? ⟨b, 2, none⟩ = false ∧ w.frozen? ⟨b, 3, none⟩ = false) :=
  ⟨⟨h.at_ 0, h.at_ 1, h.at_ 2, h.at_ 3⟩, h.free 0, h.free 1, h.free 2, h.free 3⟩

theorem Cells.set_ {w : World} {b : Nat} {cs : Array Value} {T : TypeId} (h : Cells w b cs T) (j : Nat) (v : Value) : Cells (w.setCell ⟨b, j, none⟩ v) b (cs.setIfInBounds j v) T := by
  have hb : w.heap[b]? = some (.cells cs T (0, 0)) := h
  unfold Cells
  simp [World.setCell, Array.getElem?_modify, hb]

theorem Cells.lt {w : World} {b : Nat} {cs : Array Value} {T : TypeId} (h : Cells w b cs T) : b < w.heap.size := (Array.getElem?_eq_some_iff.1 h).1
theorem Cells.ne {w : World} {b : Nat} {cs : Array Value} {T : TypeId} (h : Cells w b cs T) : b ≠ w.heap.size := Nat.ne_of_lt h.lt
theorem Cells.other {w : World} {b : Nat} {cs : Array Value} {T : TypeId} (h : Cells w b cs T) {b' : Nat} (hb : b ≠ b') (j : Nat) (v : Value) : Cells (w.setCell ⟨b', j, none⟩ v) b cs T :=
  (Below.heap_setCell w ⟨b', j, none⟩ v b hb).trans h
theorem Cells.drew {w : World} {b : Nat} {cs : Array Value} {T : TypeId} (h : Cells w b cs T) : Cells w.drew b cs T := h
theorem Cells.alloc {w : World} {b : Nat} {cs : Array Value} {T : TypeId} (h : Cells w b cs T) (o : Obj) : Cells (w.alloc o) b cs T := Cells.below ((Below.refl _ _).alloc (Nat.le_refl _) o) h

theorem row_of_owns {w : World} {base e : Nat} {A : Option Addr} {n c : Nat} {xs : List Value} (h : w.ownsRow base e 1 (.slice A n c) n xs) : Row w w.heap.size A n xs := by
  obtain ⟨hl, hv | ⟨g, cap, cur, hv, hb, hcell, hn, hc, hz, ht⟩⟩ := h
  · obtain ⟨_, rfl⟩ := hv
    obtain rfl : xs = [] := List.eq_nil_of_length_eq_zero (by simpa using hl)
    exact Row.nil
  · injection hv with h1 h2 h3
    subst h1
    refine ⟨by simpa using hl, fun _ => ⟨g, 0, rfl, (Array.getElem?_eq_some_iff.1 hcell).1, fun j u hu => ?_⟩⟩
    rw [Lib.cell_of_heap hcell, Nat.zero_add, ← Array.getElem?_toList]
    rw [← ht] at hu
    have hj : j < n * 1 := by
      have := (List.getElem?_eq_some_iff.1 hu).1
      simp at this; omega
    rwa [List.getElem?_take_of_lt hj] at hu
theorem owns_fresh (w : World) (base e : Nat) (v : Value) (hb : base ≤ w.heap.size) : (w.alloc (.cells #[v] e)).ownsRow base e 1 (.slice (some ⟨w.heap.size, 0, none⟩) 1 1) 1 [v] :=
  ⟨rfl, .inr ⟨w.heap.size, 1, #[v], rfl, hb, heap_alloc_new w _, by omega, by unfold maxLen; omega, rfl, rfl⟩⟩
theorem owns_slice {w : World} {base e : Nat} {v : Value} {n : Nat} {xs : List Value} (h : w.ownsRow base e 1 v n xs) (hn : 0 < n) : ∃ A c, v = .slice A n c := by
  rcases h.2 with ⟨_, h0⟩ | ⟨g, cap, cur, hv, _⟩
  · omega
  · exact ⟨_, _, hv⟩

end Go.Proofs.YtpidgmamollmgaaGreatDoor
end
