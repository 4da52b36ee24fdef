/- The document's answer for numbers in texts (porterref01) over this program: the same words of the base. Conditions: texts below 2^47 bytes. -/
import Derived.Test.YthmedjlecikbiaaDoorFields
set_option linter.unusedVariables false
namespace Go.Proofs.YthmedjlecikbiaaDoor
open Go.RowKit

theorem r_there (s : ByteArray) (i many : Int) (w : World) (hs : s.size ≤ maxLen) (h1 : -9223372036854775808 ≤ i ∧ i ≤ 9223372036854775807) (h2 : 0 ≤ many ∧ many ≤ 9223372036854775807) :
    Calls Tryd.prog 59 #[.string s, .int .i64 i, .int .i64 many] w fun e w' => e = .returned (.bool (has s.size i many)) ∧ w = w' := by
  unfold maxLen at hs
  obtain ⟨h1a, h1b⟩ := h1
  obtain ⟨h2a, h2b⟩ := h2
  by_cases ha : 0 ≤ i
  · by_cases hd : i ≤ s.size - many
    · go_enter Tryd.func59, Tryd.ntmps59
      go_wp2
      go_ret
      exact ⟨ret_bool (by simp [has]; omega), rfl⟩
    · go_enter Tryd.func59, Tryd.ntmps59
      go_wp2
      go_ret
      exact ⟨ret_bool (by simp [has]; omega), rfl⟩
  · go_enter Tryd.func59, Tryd.ntmps59
    go_wp2
    go_ret
    exact ⟨ret_bool (by simp [has]; omega), rfl⟩

/-- the number of k bytes from place i on -/
def ben (l : List UInt8) (i : Nat) : Nat → Int
  | 0 => 0
  | k + 1 => ben l i k * 256 + at_ l (i + k)
theorem ben_bd (l : List UInt8) (i k : Nat) (hk : k ≤ 3) : 0 ≤ ben l i k ∧ ben l i k ≤ 16777215 := by
  have b0 := at_bd l (i + 0)
  have b1 := at_bd l (i + 1)
  have b2 := at_bd l (i + 2)
  match k, hk with
  | 0, _ => simp [ben]
  | 1, _ => simp only [ben]; omega
  | 2, _ => simp only [ben]; omega
  | 3, _ => simp only [ben]; omega
theorem ben2 (l : List UInt8) (i : Nat) : ben l i 2 = be16 l i := by simp only [ben, be16, Nat.add_zero]; omega
theorem ben4 (l : List UInt8) (i : Nat) : ben l i 4 = be32 l i := by
  simp only [ben, be32, be16, Nat.add_zero, Nat.add_assoc, Nat.reduceAdd]; omega

set_option maxHeartbeats 400000 in
theorem r_Get_in (s : ByteArray) (i n : Nat) (w : World) (hs : s.size ≤ maxLen) (hn : n ≤ 4) (h : i + n ≤ s.size) :
    Calls Tryd.prog 52 #[.string s, .int .i64 i, .int .i64 n] w fun e w' => e = .returned (.tuple #[.int .u32 (ben (L s) i n), .bool true]) ∧ w = w' := by
  have hs' := hs
  unfold maxLen at hs'
  have hx : has s.size i n = true := by simp [has]; omega
  have hw := r_there s i n w hs ⟨by omega, by omega⟩ ⟨by omega, by omega⟩
  rw [hx] at hw
  clear hx
  go_enter Tryd.func52, Tryd.ntmps52
  go_wp2_with (go_at_call 59; refine hw.mono ?_; rintro e w' ⟨rfl, rfl⟩)
  go_loop [8, 9] (fun v j => ∃ k : Nat, k ≤ n ∧ j = .int .i64 k ∧ v = .int .u32 (ben (L s) i k)) (fun _ j => n - (intOf j).toNat)
  case atStart => exact ⟨0, Nat.zero_le _, rfl, rfl⟩
  case round =>
    obtain ⟨k, hk, rfl, rfl⟩ := hrel
    by_cases hlt : k < n
    · obtain ⟨b1, b2⟩ := ben_bd (L s) i k (by omega)
      have b3 := at_bd (L s) (i + k)
      have e1 := getElem_L s (i + k) (by omega)
      have fin : ben (L s) i (k + 1) = ben (L s) i k * 256 + ((s[i + k]'(by omega)).toNat : Int) := by
        rw [e1]; rfl
      have HF := hide fin
      clear fin e1
      have c0 : (((s[i + k]'(by omega)).toNat : Nat) : Int) ≤ 255 := by have := (s[i + k]'(by omega)).toNat_lt; omega
      have c1 : i + k < s.size := by omega
      have c2 : (i : Int) + (k : Int) < (s.size : Int) := by omega
      go_wp2
      go_round
      case rel => exact ⟨k + 1, by omega, by go_num, by rw [HF.out]⟩
      case measure => simp [intOf]; omega
    · obtain rfl : k = n := by omega
      go_wp2
      go_ret2
      exact ⟨rfl, rfl⟩

theorem r_Get_out (s : ByteArray) (i n : Int) (w : World) (hs : s.size ≤ maxLen) (h1 : -9223372036854775808 ≤ i ∧ i ≤ 9223372036854775807) (h2 : 0 ≤ n ∧ n ≤ 9223372036854775807) (h : has s.size i n = false) :
    Calls Tryd.prog 52 #[.string s, .int .i64 i, .int .i64 n] w fun e w' => e = .returned (.tuple #[.int .u32 0, .bool false]) ∧ w = w' := by
  have hw := r_there s i n w hs h1 h2
  rw [h] at hw
  clear h
  go_enter Tryd.func52, Tryd.ntmps52
  go_wp2_with (go_at_call 59; refine hw.mono ?_; rintro e w' ⟨rfl, rfl⟩)
  go_ret2
  exact ⟨rfl, rfl⟩

theorem r_Get16 (s : ByteArray) (i : Int) (w : World) (hs : s.size ≤ maxLen) (h1 : -9223372036854775808 ≤ i ∧ i ≤ 9223372036854775807) :
    Calls Tryd.prog 35 #[.string s, .int .i64 i] w (Ret (.tuple #[.int .u16 (get16 (L s) i), .bool (has s.size i 2)]) w) := by
  by_cases h : has s.size i 2 = true
  · have h' := h
    simp [has] at h'
    obtain ⟨k, rfl⟩ : ∃ k : Nat, i = k := ⟨i.toNat, by omega⟩
    have h2 : k + 2 ≤ (L s).length := by rw [L_length]; omega
    obtain ⟨b1, b2⟩ := be16_bd (L s) k
    rw [get16_nat h2, h, ← ben2]
    rw [← ben2] at b1 b2
    clear h
    go_enter Tryd.func35, Tryd.ntmps35
    go_wp2_with fail
    refine (r_Get_in s k 2 _ hs (by omega) (by omega)).mono ?_
    rintro e w1 ⟨rfl, rfl⟩
    go_wp2_with fail
    go_ret2
    exact ⟨rfl, Below.refl _ _⟩
  · have h' : has s.size i 2 = false := by simpa using h
    have hg : get16 (L s) i = 0 := by unfold get16; rw [L_length, if_neg h]
    rw [hg, h']
    have hc := r_Get_out s i 2 w hs h1 ⟨by omega, by omega⟩ h'
    clear h h' hg
    go_enter Tryd.func35, Tryd.ntmps35
    go_wp2_with fail
    refine hc.mono ?_
    rintro e w1 ⟨rfl, rfl⟩
    go_wp2_with fail
    go_ret2
    exact ⟨rfl, Below.refl _ _⟩

/-- string(b), b a new row of two bytes -/
theorem conv2 (c d : Int) (w : World) : (convert 26 9 (.slice (some ⟨w.heap.size, 0, none⟩) 2 2)).run Tryd.prog (w.alloc (.cells #[.int .u8 c, .int .u8 d] 5)) =
    .ok (.string (S [byt c, byt d])) (w.alloc (.cells #[.int .u8 c, .int .u8 d] 5)) :=
  run_convert_bytes_arg (P := Tryd.prog) (w.alloc (.cells #[.int .u8 c, .int .u8 d] 5)) 26 5 Tryd.underlying26 Tryd.underlying5 w.heap.size 0 2 2 [c, d] rfl
    (fun i hi => by
      rw [Lib.cell_of_heap (heap_alloc_new w _)]
      match i, hi with
      | 0, _ => rfl
      | 1, _ => rfl) 9 Tryd.underlying9
theorem conv1 (c : Int) (w : World) : (convert 26 9 (.slice (some ⟨w.heap.size, 0, none⟩) 1 1)).run Tryd.prog (w.alloc (.cells #[.int .u8 c] 5)) =
    .ok (.string (S [byt c])) (w.alloc (.cells #[.int .u8 c] 5)) :=
  run_convert_bytes_arg (P := Tryd.prog) (w.alloc (.cells #[.int .u8 c] 5)) 26 5 Tryd.underlying26 Tryd.underlying5 w.heap.size 0 1 1 [c] rfl
    (fun i hi => by
      rw [Lib.cell_of_heap (heap_alloc_new w _)]
      match i, hi with
      | 0, _ => rfl) 9 Tryd.underlying9

theorem byt_mod (n : Int) (h : 0 ≤ n) : byt (n % 256) = byt n := by
  apply UInt8.toNat_inj.1
  rw [byt_toNat, byt_toNat]; omega

theorem r_Put16 (n : Int) (w : World) (h0 : 0 ≤ n) (h1 : n ≤ 65535) :
    Calls Tryd.prog 33 #[.int .u16 n] w (Ret (.string (S (put16 n))) w) := by
  have q1 : n.tdiv 256 = n / 256 := Int.tdiv_eq_ediv_of_nonneg h0
  have q2 : IntKind.u16.wrap (n / 256) = n / 256 := by rw [IntKind.wrap_u16]; omega
  have q3 : n / 256 % 256 = n / 256 := by omega
  have hc := conv2 (n / 256) (n % 256)
  go_enter Tryd.func33, Tryd.ntmps33
  go_wp2
  go_ret
  exact ⟨ret_str (by rw [byt_mod n h0]; rfl), fresh_below _ _⟩

end Go.Proofs.YthmedjlecikbiaaDoor
