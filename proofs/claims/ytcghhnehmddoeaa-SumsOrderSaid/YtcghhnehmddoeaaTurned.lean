/- turned, walked: both bytes of each word of a text of whole words change places. -/
import Derived.Test.YtcghhnehmddoeaaBytes
import Derived.Test.YtcghhnehmddoeaaSumLaw
set_option linter.unusedVariables false
namespace Go.Proofs.Ytcghhnehmddoeaa
open Go.RowKit

/-- the first k words turned, the rest as it was -/
def turnTo (l : List UInt8) (k : Nat) : List UInt8 := turnB (l.take (2 * k)) ++ l.drop (2 * k)
theorem turnB_length : ∀ (l : List UInt8), (turnB l).length = l.length
  | [] => rfl
  | [_] => rfl
  | a :: b :: t => by simp [turnB, turnB_length t]
theorem turnTo_length (l : List UInt8) (k : Nat) : (turnTo l k).length = l.length := by
  unfold turnTo; rw [List.length_append, turnB_length, List.length_take, List.length_drop]; omega
theorem turnTo_zero (l : List UInt8) : turnTo l 0 = l := by simp [turnTo, turnB]
theorem turnTo_all {l : List UInt8} {k : Nat} (h : l.length ≤ 2 * k) : turnTo l k = turnB l := by
  unfold turnTo; rw [List.take_of_length_le h, List.drop_of_length_le h, List.append_nil]
theorem turnTo_succ : ∀ (l : List UInt8) (k : Nat), 2 * k + 1 < l.length → turnTo l (k + 1) = ((turnTo l k).set (2 * k) (l.getD (2 * k + 1) 0)).set (2 * k + 1) (l.getD (2 * k) 0)
  | a :: b :: t, 0, _ => by simp [turnTo, turnB]
  | a :: b :: t, k + 1, h => by
    have h1 := turnTo_succ t k (by simp at h; omega)
    have e : ∀ j, turnTo (a :: b :: t) (j + 1) = b :: a :: turnTo t j := fun j => by
      unfold turnTo
      rw [show 2 * (j + 1) = 2 * j + 1 + 1 from by omega, List.take_succ_cons, List.take_succ_cons, List.drop_succ_cons, List.drop_succ_cons]
      rfl
    rw [e, e, h1, show 2 * (k + 1) + 1 = (2 * k + 1) + 1 + 1 from by omega, show 2 * (k + 1) = 2 * k + 1 + 1 from by omega]
    simp only [List.set_cons_succ, List.getD_cons_succ]
theorem turnTo_at {l : List UInt8} {k j : Nat} (hj : 2 * k ≤ j) (hl : 2 * k ≤ l.length) : at_ (turnTo l k) j = at_ l j := by
  have hz : (turnB (l.take (2 * k))).length = 2 * k := by rw [turnB_length, List.length_take]; omega
  unfold turnTo
  unfold at_
  rw [List.getD_eq_getElem?_getD, List.getD_eq_getElem?_getD, List.getElem?_append_right (by omega), hz, List.getElem?_drop, show 2 * k + (j - 2 * k) = j from by omega]

set_option maxHeartbeats 2000000 in
theorem turned (s : ByteArray) (w : World) (hs : s.size ≤ 140737488351232) (h2 : s.size % 2 = 0) :
    Calls Try.prog 44 #[.string s] w (Ret (.string (S (turnB (L s)))) w) := by
  obtain ⟨cap, W, hrun, hB0, hbel⟩ := conv_string w s
  have HB0 := hide hB0
  clear hB0
  go_enter Try.func44, Try.ntmps44
  go_wp2
  have hs1 : s.size ≤ 9223372036854775806 := by omega
  have H2 := hide h2
  clear h2 hrun
  go_loopw [4] (fun i wr => ∃ k : Nat, 2 * k ≤ s.size ∧ i = .int .i64 (2 * (k : Int)) ∧ Bytes wr w.heap.size (turnTo (L s) k) ∧ Below w.heap.size w wr) (fun i _ => s.size + 2 - (intOf i).toNat)
  case atStart => exact ⟨0, by omega, rfl, by rw [turnTo_zero]; exact HB0.out, hbel⟩
  case round =>
    obtain ⟨k, hk, rfl, hB, hbl⟩ := hrel
    by_cases hlt : 2 * k + 1 < s.size
    · have hz : (turnTo (L s) k).length = s.size := by rw [turnTo_length, L_length]
      have c0 := hB.cell (j := 2 * k) (by omega)
      have c1 := hB.cell (j := 2 * k + 1) (by omega)
      have f0 := hB.frozen (j := 2 * k) (by omega)
      have f1 := hB.frozen (j := 2 * k + 1) (by omega)
      rw [turnTo_at (by omega) (by rw [L_length]; omega)] at c0 c1
      obtain ⟨x, hx⟩ : ∃ x, x = at_ (L s) (2 * k) := ⟨_, rfl⟩
      obtain ⟨y, hy⟩ : ∃ y, y = at_ (L s) (2 * k + 1) := ⟨_, rfl⟩
      rw [← hx] at c0
      rw [← hy] at c1
      have hB2 : Bytes ((wr.setCell ⟨w.heap.size, 2 * k, none⟩ (.int .u8 y)).setCell ⟨w.heap.size, 2 * k + 1, none⟩ (.int .u8 x)) w.heap.size (turnTo (L s) (k + 1)) := by
        rw [turnTo_succ _ _ (by rw [L_length]; omega), hx, hy]
        exact (hB.set_ (by omega)).set_ (by simp; omega)
      have hb2 := (hbl.setCell (p := ⟨w.heap.size, 2 * k, none⟩) (Nat.le_refl _) (.int .u8 y)).setCell (p := ⟨w.heap.size, 2 * k + 1, none⟩) (Nat.le_refl _) (.int .u8 x)
      have HB := hide hB; have HB2 := hide hB2
      clear hB hB2 hx hy hz
      have k1 : (2 * (k : Int)).toNat = 2 * k := by omega
      have k2 : (2 * (k : Int) + 1).toNat = 2 * k + 1 := by omega
      have k3 : (0 : Int) ≤ 2 * (k : Int) := by omega
      have k4 : 2 * (k : Int) < (s.size : Int) := by omega
      have k5 : 2 * (k : Int) + 1 < (s.size : Int) := by omega
      have k6 : (0 : Int) ≤ 2 * (k : Int) + 1 := by omega
      have k7 : IntKind.i64.wrap (2 * (k : Int) + 1) = 2 * (k : Int) + 1 := IntWalk.i64_in _ (by omega)
      have k8 : IntKind.i64.wrap (2 * (k : Int)) = 2 * (k : Int) := IntWalk.i64_in _ (by omega)
      go_wp2
      go_region
      go_wp2
      go_roundw
      case rel => exact ⟨k + 1, by omega, by go_num, HB2.out, hb2.drew⟩
      case measure => simp [intOf]; omega
    · have hk2 : 2 * k = s.size := by have := H2.out; omega
      have e : turnTo (L s) k = turnB (L s) := turnTo_all (by rw [L_length]; omega)
      rw [e] at hB
      have hz : (turnB (L s)).length = s.size := by rw [turnB_length, L_length]
      have hcv := conv_bytes wr w.heap.size cap (turnB (L s)) hB
      rw [hz] at hcv
      have HB := hide hB
      clear hB e hz hk2
      go_wp2
      go_ret
      exact ⟨rfl, hbl⟩
end Go.Proofs.Ytcghhnehmddoeaa
