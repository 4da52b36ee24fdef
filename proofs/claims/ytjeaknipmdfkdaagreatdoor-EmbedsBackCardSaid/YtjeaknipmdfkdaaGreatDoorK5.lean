/- Several texts of this claim, one behind the other. -/
import Derived.Test.YtjeaknipmdfkdaaGreatDoorK0
import Derived.Test.YtjeaknipmdfkdaaGreatDoorK4
import Derived.Test.YtjeaknipmdfkdaaGreatDoorK2
import Derived.Test.YtjeaknipmdfkdaaGreatDoorK3
import Derived.Deep.RegionHeldLaw
import Derived.Deep.RegionHeld3

section
/- Blocks that are known whole, carried over new blocks and calls. No program. -/
set_option linter.unusedVariables false
namespace Go.Proofs.YtjeaknipmdfkdaaGreatDoor
open Go.RowKit

theorem Cells.up {a c d : World} {b : Nat} {cs : Array Value} {T : TypeId} (h : Cells a b cs T) (k : Below a.heap.size a c) (j : Below c.heap.size c d) : Cells d b cs T := Cells.below j (Cells.below k h)
end Go.Proofs.YtjeaknipmdfkdaaGreatDoor
end

section
/- A number laid into its place in a text, by the program's With and Word. -/
set_option linter.unusedVariables false
namespace Go.Proofs.YtjeaknipmdfkdaaGreatDoor
open Go.RowKit

theorem putW_one (n : Int) : putW [n] = put16 n := by simp [putW]
theorem Word1 (n : Int) (h : 0 ≤ n ∧ n ≤ 65535) (W : World) : Calls Tryz.prog 34 #[.slice (some ⟨W.heap.size, 0, none⟩) 1 1] (W.alloc (.cells #[.int .u16 n] 24)) (Ret (.string (S (put16 n))) (W.alloc (.cells #[.int .u16 n] 24))) := by
  have h1 := Word (some ⟨W.heap.size, 0, none⟩) 1 1 [n] (W.alloc (.cells #[.int .u16 n] 24)) (Row.freshAt W #[.int .u16 n] 24 W.heap.size _ _ rfl rfl rfl) (by simpa using h) (by omega)
  rwa [putW_one] at h1
theorem With_lay (s : ByteArray) (i : Int) (k : Nat) (n : Int) (hi : i = k) (hs : s.size ≤ 140737488351232) (h : k + 2 ≤ s.size) (W : World) :
    Calls Tryz.prog 70 #[.string s, .int .i64 i, .string (S (put16 n))] W (Ret (.tuple #[.string (S (lay (L s) k n)), .bool true]) W) := by
  subst hi
  have c := With_in s k (S (put16 n)) W hs (by rw [S_size, put16_length]; omega)
  have e : (L s).take k ++ (L (S (put16 n)) ++ (L s).drop (k + (S (put16 n)).size)) = lay (L s) k n := by rw [← List.append_assoc]; rfl
  rwa [e] at c
end Go.Proofs.YtjeaknipmdfkdaaGreatDoor
end

section
/- rewrite's small functions over this program. -/
set_option linter.unusedVariables false
set_option linter.unusedSimpArgs false
namespace Go.Proofs.YtjeaknipmdfkdaaGreatDoor
open Go.RowKit
attribute [local go_sem] Oper.semAt_some

theorem Row.rise {X Y : World} {A : Option Addr} {n : Nat} {l : List Value} (r : Row X X.heap.size A n l) (b : Below X.heap.size X Y) : Row Y Y.heap.size A n l := (r.below b).more b.size
theorem Row.afterdraw {X : World} {A : Option Addr} {n : Nat} {l : List Value} (r : Row X X.heap.size A n l) : Row X.drew X.drew.heap.size A n l := r
/-- all bytes of some texts, one behind the other -/
def allOf (ss : List ByteArray) : List UInt8 := ss.flatMap L
theorem allOf_snoc (ss : List ByteArray) (k : Nat) (h : k < ss.length) : allOf (ss.take (k + 1)) = allOf (ss.take k) ++ L (ss.getD k ByteArray.empty) := by
  unfold allOf
  rw [take_snoc_s ss k h, List.flatMap_append]; simp
theorem allOf_take_le (ss : List ByteArray) (k : Nat) : (allOf (ss.take k)).length ≤ (allOf ss).length := by
  have h := List.take_append_drop k ss
  have h2 : allOf ss = allOf (ss.take k) ++ allOf (ss.drop k) := by
    unfold allOf
    rw [← List.flatMap_append, h]
  rw [h2, List.length_append]; omega

set_option maxHeartbeats 1000000 in
theorem rw_laid (A : Option Addr) (n c : Nat) (ss : List ByteArray) (w : World) (hr : Row w w.heap.size A n (ss.map Value.string)) (hz : (allOf ss).length ≤ 140737488351232) (hn : n ≤ 1000) :
    Calls Tryz.prog 84 #[.slice A n c] w (Ret (.string (S (allOf ss))) w) := by
  have hlen : ss.length = n := by simpa using hr.1
  have HN := hide hlen
  clear hlen
  go_enter Tryz.func84, Tryz.ntmps84
  go_wp2
  go_loopw [3, 8] (fun v i wr => ∃ k : Nat, k ≤ n ∧ i = .int .i64 k ∧ v = .string (S (allOf (ss.take k))) ∧ Below w.heap.size w wr) (fun _ i _ => n - (intOf i).toNat)
  case atStart => exact ⟨0, Nat.zero_le _, rfl, rfl, Below.refl _ _⟩
  case round =>
    obtain ⟨k, hk, rfl, rfl, hbel⟩ := hrel
    by_cases hlt : k < n
    · obtain ⟨b, o, rfl, hbo, hc⟩ := hr.at_ (by omega)
      obtain ⟨s, hs⟩ : ∃ s, s = ss.getD k ByteArray.empty := ⟨_, rfl⟩
      have hcell : wr.cell? ⟨b, o + k, none⟩ = some (.string s) := by rw [hs]; exact (hbel.cell (p := ⟨b, o + k, none⟩) hbo).trans (hc k _ (strs_at (by rw [HN.out]; exact hlt)))
      have hsn := allOf_snoc ss k (by rw [HN.out]; exact hlt)
      have hle := allOf_take_le ss (k + 1)
      rw [hsn, List.length_append] at hle
      rw [← hs] at hsn hle
      obtain ⟨t, ht⟩ : ∃ t, t = S (allOf (ss.take k)) := ⟨_, rfl⟩
      have hend : t ++ s = S (allOf (ss.take (k + 1))) := by
        apply L_inj
        rw [L_append, ht, L_S, L_S, hsn]
      have htz : (t ++ s).size ≤ 140737488351232 := by
        rw [ByteArray.size_append, ht, S_size, ← L_length s]; omega
      have htz2 : t.size + s.size ≤ 140737488351232 := by rwa [ByteArray.size_append] at htz
      rw [← ht]
      have HE := hide hend
      clear hc hs hsn hle ht hend
      go_wp2_with fail
      go_roundw
      case rel => exact ⟨k + 1, by omega, by go_num, by rw [HE.out], hbel⟩
      case measure => simp [intOf]; omega
    · obtain rfl : k = n := by omega
      have he : S (allOf (ss.take k)) = S (allOf ss) := by rw [List.take_of_length_le (by rw [HN.out]; exact Nat.le_refl _)]
      obtain ⟨t, ht⟩ : ∃ t, t = S (allOf (ss.take k)) := ⟨_, rfl⟩
      rw [← ht] at he ⊢
      have HE := hide he
      clear ht he
      go_wp2_with fail
      go_ret
      exact ⟨congrArg Ending.returned (v_str HE.out), hbel⟩

theorem rw_word (s : ByteArray) (k : Nat) (w : World) (hs : s.size ≤ maxLen) (h : k + 2 ≤ s.size) :
    Calls Tryz.prog 85 #[.string s, .int .i64 k] w (Ret (.int .u16 (be16 (L s) k)) w) := by
  have c := fun w => Get16_in s k w hs h
  obtain ⟨x, hx⟩ : ∃ x, x = be16 (L s) k := ⟨_, rfl⟩
  rw [← hx] at c ⊢
  have C := hide c
  clear c hx
  go_enter Tryz.func85, Tryz.ntmps85
  go_wp2_with fail
  (with_reducible refine (C.out _).mono ?_)
  rintro e w1 ⟨rfl, n1, rfl⟩
  go_wp2_with fail
  go_ret
  exact ⟨rfl, below_drewN (Below.refl _ _) n1⟩
theorem rw_patch (s : ByteArray) (k : Nat) (p : ByteArray) (w : World) (hs : s.size ≤ 140737488351232) (h : k + p.size ≤ s.size) :
    Calls Tryz.prog 120 #[.string s, .int .i64 k, .string p] w (Ret (.string (S ((L s).take k ++ (L p ++ (L s).drop (k + p.size))))) w) := by
  have c := fun w => With_in s k p w hs h
  obtain ⟨x, hx⟩ : ∃ x, x = S ((L s).take k ++ (L p ++ (L s).drop (k + p.size))) := ⟨_, rfl⟩
  rw [← hx] at c ⊢
  have C := hide c
  clear c hx
  go_enter Tryz.func120, Tryz.ntmps120
  go_wp2_with fail
  (with_reducible refine (C.out _).mono ?_)
  rintro e w1 ⟨rfl, b1⟩
  go_wp2_with fail
  go_ret
  exact ⟨rfl, (by (repeat' (first | with_reducible exact b1 | with_reducible exact Below.refl _ _ | with_reducible refine Below.setCell ?_ (by first | exact Nat.le_refl _ | (dsimp only; omega)) _ | with_reducible refine bstep ?_ (fresh_below _ _) | with_reducible refine Below.drew ?_)))⟩
end Go.Proofs.YtjeaknipmdfkdaaGreatDoor
end
