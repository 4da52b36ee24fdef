/- Several texts of this claim, one behind the other. -/
import Derived.Test.YtedfdphapcanoaaGreatDoorM19
import Derived.Test.YtedfdphapcanoaaGreatDoorM13

section
/- The chapter's box: boxed. -/
set_option linter.unusedVariables false
namespace Go.Proofs.YtedfdphapcanoaaGreatDoor
open Go.RowKit Go.Lib Rx

theorem tabOK_of {w : World} (hL : Lasts w) (hW : Wds w) : TabOK (Amb.of w) := fun W h => ⟨hL.below h, hW.below h⟩
theorem boxed_w (w : World) (hL : Lasts w) (hW : Wds w) : Calls Tryz.prog 14 #[] w (Ret (.bool true) w) :=
  have hM := tabOK_of hL hW
  run (args := []) [calls 1 0 3 made_J, does 21 (args := [oneV, farV]) fun W _ => dg_A W, calls 25 8 2 ((pk_1 hM).at (d := 2) [0, 1, 2, 7] 8), does 35 (args := [farV, outV]) fun W _ => dg_B W, calls 37 11 1 ((pk_B hM 1 120 0 (.inl rfl) (by decide) (by decide)).at (d := 1) [0, 1, 2, 8, 9] 11),
    does 47 (args := [twoV, farV]) fun W _ => dg_C W, calls 51 14 0 ((pk_2 hM).at (d := 0) [0, 1, 2, 8, 11, 13] 14), does 61 (args := [twoV, farV]) fun W _ => dg_C W, calls 65 16 0 ((pk_3 hM).at (d := 0) [0, 1, 2, 8, 11, 15] 16), does 75 (args := [twoV, farV]) fun W _ => dg_C W, calls 77 17 0 ((pk_4 hM).at (d := 0) [0, 1, 2, 8, 11] 17),
    does 117 (args := [.string pka]) fun W _ => of_a W, does 159 (args := [.string pkb]) fun W _ => of_b W, calls 193 26 0 ((tick_on 2 300 0 299 (by decide) (by decide) (by decide)).at (d := 0) [0, 1, 2, 8, 11] 26), calls 197 26 1 ((dump_1 2 300 299).at (d := 1) [0, 1, 2, 8, 11] 26),
    calls 208 27 0 ((tick_off 2 300 299 1 (by decide) (by decide) (by decide)).at (d := 0) [0, 1, 2, 8, 11] 27), calls 213 27 0 ((dump_0 300).at (d := 0) [0, 1, 2, 8] 27)]
end Go.Proofs.YtedfdphapcanoaaGreatDoor
end

section
/- The document's answer for numbers in texts (porterref01) over this program: the same words of the base. Conditions: texts below 2^47 bytes. -/
set_option linter.unusedVariables false
namespace Go.Proofs.YtedfdphapcanoaaGreatDoor
open Go.RowKit

theorem r_there (s : ByteArray) (i many : Int) (w : World) (hs : s.size ≤ maxLen) (h1 : -9223372036854775808 ≤ i ∧ i ≤ 9223372036854775807) (h2 : 0 ≤ many ∧ many ≤ 9223372036854775807) :
    Calls Tryz.prog 289 #[.string s, .int .i64 i, .int .i64 many] w fun e w' => e = .returned (.bool (has s.size i many)) ∧ w = w' := by
  unfold maxLen at hs
  obtain ⟨h1a, h1b⟩ := h1
  obtain ⟨h2a, h2b⟩ := h2
  by_cases ha : 0 ≤ i
  · by_cases hd : i ≤ s.size - many
    · go_enter Tryz.func289, Tryz.ntmps289
      go_wp2
      go_ret
      exact ⟨ret_bool (by simp [has]; omega), rfl⟩
    · go_enter Tryz.func289, Tryz.ntmps289
      go_wp2
      go_ret
      exact ⟨ret_bool (by simp [has]; omega), rfl⟩
  · go_enter Tryz.func289, Tryz.ntmps289
    go_wp2
    go_ret
    exact ⟨ret_bool (by simp [has]; omega), rfl⟩

/-- the number of k bytes from place i on -/
def ben (l : List UInt8) (i : Nat) : Nat → Int
  | 0 => 0
  | k + 1 => ben l i k * 256 + at_ l (i + k)
theorem ben_bd (l : List UInt8) (i k : Nat) (hk : k ≤ 3) : 0 ≤ ben l i k ∧ ben l i k ≤ 16777215 := by
  have b0 := at_bd l (i + 0)
  have b1 := at_bd l (i + 1)
  have b2 := at_bd l (i + 2)
  match k, hk with
  | 0, _ => simp [ben]
  | 1, _ => simp only [ben]; omega
  | 2, _ => simp only [ben]; omega
  | 3, _ => simp only [ben]; omega
theorem ben2 (l : List UInt8) (i : Nat) : ben l i 2 = be16 l i := by simp only [ben, be16, Nat.add_zero]; omega
theorem ben4 (l : List UInt8) (i : Nat) : ben l i 4 = be32 l i := by
  simp only [ben, be32, be16, Nat.add_zero, Nat.add_assoc, Nat.reduceAdd]; omega

set_option maxHeartbeats 400000 in
theorem r_Get_in (s : ByteArray) (i n : Nat) (w : World) (hs : s.size ≤ maxLen) (hn : n ≤ 4) (h : i + n ≤ s.size) :
    Calls Tryz.prog 282 #[.string s, .int .i64 i, .int .i64 n] w fun e w' => e = .returned (.tuple #[.int .u32 (ben (L s) i n), .bool true]) ∧ w = w' := by
  have hs' := hs
  unfold maxLen at hs'
  have hx : has s.size i n = true := by simp [has]; omega
  have hw := r_there s i n w hs ⟨by omega, by omega⟩ ⟨by omega, by omega⟩
  rw [hx] at hw
  clear hx
  go_enter Tryz.func282, Tryz.ntmps282
  go_wp2_with (go_at_call 289; refine hw.mono ?_; rintro e w' ⟨rfl, rfl⟩)
  go_loop [8, 9] (fun v j => ∃ k : Nat, k ≤ n ∧ j = .int .i64 k ∧ v = .int .u32 (ben (L s) i k)) (fun _ j => n - (intOf j).toNat)
  case atStart => exact ⟨0, Nat.zero_le _, rfl, rfl⟩
  case round =>
    obtain ⟨k, hk, rfl, rfl⟩ := hrel
    by_cases hlt : k < n
    · obtain ⟨b1, b2⟩ := ben_bd (L s) i k (by omega)
      have b3 := at_bd (L s) (i + k)
      have e1 := getElem_L s (i + k) (by omega)
      have fin : ben (L s) i (k + 1) = ben (L s) i k * 256 + ((s[i + k]'(by omega)).toNat : Int) := by
        rw [e1]; rfl
      have HF := hide fin
      clear fin e1
      have c0 : (((s[i + k]'(by omega)).toNat : Nat) : Int) ≤ 255 := by have := (s[i + k]'(by omega)).toNat_lt; omega
      have c1 : i + k < s.size := by omega
      have c2 : (i : Int) + (k : Int) < (s.size : Int) := by omega
      go_wp2
      go_round
      case rel => exact ⟨k + 1, by omega, by go_num, by rw [HF.out]⟩
      case measure => simp [intOf]; omega
    · obtain rfl : k = n := by omega
      go_wp2
      go_ret2
      exact ⟨rfl, rfl⟩

theorem r_Get_out (s : ByteArray) (i n : Int) (w : World) (hs : s.size ≤ maxLen) (h1 : -9223372036854775808 ≤ i ∧ i ≤ 9223372036854775807) (h2 : 0 ≤ n ∧ n ≤ 9223372036854775807) (h : has s.size i n = false) :
    Calls Tryz.prog 282 #[.string s, .int .i64 i, .int .i64 n] w fun e w' => e = .returned (.tuple #[.int .u32 0, .bool false]) ∧ w = w' := by
  have hw := r_there s i n w hs h1 h2
  rw [h] at hw
  clear h
  go_enter Tryz.func282, Tryz.ntmps282
  go_wp2_with (go_at_call 289; refine hw.mono ?_; rintro e w' ⟨rfl, rfl⟩)
  go_ret2
  exact ⟨rfl, rfl⟩

theorem r_Get32 (s : ByteArray) (i : Int) (w : World) (hs : s.size ≤ maxLen) (h1 : -9223372036854775808 ≤ i ∧ i ≤ 9223372036854775807) :
    Calls Tryz.prog 281 #[.string s, .int .i64 i] w (Ret (.tuple #[.int .u32 (get32 (L s) i), .bool (has s.size i 4)]) w) := by
  by_cases h : has s.size i 4 = true
  · have h' := h
    simp [has] at h'
    obtain ⟨k, rfl⟩ : ∃ k : Nat, i = k := ⟨i.toNat, by omega⟩
    have h2 : k + 4 ≤ (L s).length := by rw [L_length]; omega
    rw [get32_nat h2, h, ← ben4]
    clear h
    go_enter Tryz.func281, Tryz.ntmps281
    go_wp2_with fail
    refine (r_Get_in s k 4 _ hs (by omega) (by omega)).mono ?_
    rintro e w1 ⟨rfl, rfl⟩
    go_wp2_with fail
    go_ret2
    exact ⟨rfl, Below.refl _ _⟩
  · have h' : has s.size i 4 = false := by simpa using h
    have hg : get32 (L s) i = 0 := by unfold get32; rw [L_length, if_neg h]
    rw [hg, h']
    have hc := r_Get_out s i 4 w hs h1 ⟨by omega, by omega⟩ h'
    clear h h' hg
    go_enter Tryz.func281, Tryz.ntmps281
    go_wp2_with fail
    refine hc.mono ?_
    rintro e w1 ⟨rfl, rfl⟩
    go_wp2_with fail
    go_ret2
    exact ⟨rfl, Below.refl _ _⟩

theorem r_Get16 (s : ByteArray) (i : Int) (w : World) (hs : s.size ≤ maxLen) (h1 : -9223372036854775808 ≤ i ∧ i ≤ 9223372036854775807) :
    Calls Tryz.prog 258 #[.string s, .int .i64 i] w (Ret (.tuple #[.int .u16 (get16 (L s) i), .bool (has s.size i 2)]) w) := by
  by_cases h : has s.size i 2 = true
  · have h' := h
    simp [has] at h'
    obtain ⟨k, rfl⟩ : ∃ k : Nat, i = k := ⟨i.toNat, by omega⟩
    have h2 : k + 2 ≤ (L s).length := by rw [L_length]; omega
    obtain ⟨b1, b2⟩ := be16_bd (L s) k
    rw [get16_nat h2, h, ← ben2]
    rw [← ben2] at b1 b2
    clear h
    go_enter Tryz.func258, Tryz.ntmps258
    go_wp2_with fail
    refine (r_Get_in s k 2 _ hs (by omega) (by omega)).mono ?_
    rintro e w1 ⟨rfl, rfl⟩
    go_wp2_with fail
    go_ret2
    exact ⟨rfl, Below.refl _ _⟩
  · have h' : has s.size i 2 = false := by simpa using h
    have hg : get16 (L s) i = 0 := by unfold get16; rw [L_length, if_neg h]
    rw [hg, h']
    have hc := r_Get_out s i 2 w hs h1 ⟨by omega, by omega⟩ h'
    clear h h' hg
    go_enter Tryz.func258, Tryz.ntmps258
    go_wp2_with fail
    refine hc.mono ?_
    rintro e w1 ⟨rfl, rfl⟩
    go_wp2_with fail
    go_ret2
    exact ⟨rfl, Below.refl _ _⟩

/-- string(b), b a new row of two bytes -/
theorem conv2 (c d : Int) (w : World) : (convert 283 9 (.slice (some ⟨w.heap.size, 0, none⟩) 2 2)).run Tryz.prog (w.alloc (.cells #[.int .u8 c, .int .u8 d] 5)) =
    .ok (.string (S [byt c, byt d])) (w.alloc (.cells #[.int .u8 c, .int .u8 d] 5)) :=
  run_convert_bytes_arg (P := Tryz.prog) (w.alloc (.cells #[.int .u8 c, .int .u8 d] 5)) 283 5 Tryz.underlying283 Tryz.underlying5 w.heap.size 0 2 2 [c, d] rfl
    (fun i hi => by
      rw [Lib.cell_of_heap (heap_alloc_new w _)]
      match i, hi with
      | 0, _ => rfl
      | 1, _ => rfl) 9 Tryz.underlying9
theorem conv1 (c : Int) (w : World) : (convert 283 9 (.slice (some ⟨w.heap.size, 0, none⟩) 1 1)).run Tryz.prog (w.alloc (.cells #[.int .u8 c] 5)) =
    .ok (.string (S [byt c])) (w.alloc (.cells #[.int .u8 c] 5)) :=
  run_convert_bytes_arg (P := Tryz.prog) (w.alloc (.cells #[.int .u8 c] 5)) 283 5 Tryz.underlying283 Tryz.underlying5 w.heap.size 0 1 1 [c] rfl
    (fun i hi => by
      rw [Lib.cell_of_heap (heap_alloc_new w _)]
      match i, hi with
      | 0, _ => rfl) 9 Tryz.underlying9

theorem byt_mod (n : Int) (h : 0 ≤ n) : byt (n % 256) = byt n := by
  apply UInt8.toNat_inj.1
  rw [byt_toNat, byt_toNat]; omega

theorem r_Put16 (n : Int) (w : World) (h0 : 0 ≤ n) (h1 : n ≤ 65535) :
    Calls Tryz.prog 182 #[.int .u16 n] w (Ret (.string (S (put16 n))) w) := by
  have q1 : n.tdiv 256 = n / 256 := Int.tdiv_eq_ediv_of_nonneg h0
  have q2 : IntKind.u16.wrap (n / 256) = n / 256 := by rw [IntKind.wrap_u16]; omega
  have q3 : n / 256 % 256 = n / 256 := by omega
  have hc := conv2 (n / 256) (n % 256)
  go_enter Tryz.func182, Tryz.ntmps182
  go_wp2
  go_ret
  exact ⟨ret_str (by rw [byt_mod n h0]; rfl), fresh_below _ _⟩

theorem r_Put32 (n : Int) (w : World) (h0 : 0 ≤ n) (h1 : n ≤ 4294967295) :
    Calls Tryz.prog 235 #[.int .u32 n] w (Ret (.string (S (put32 n))) w) := by
  have q1 : n.tdiv 65536 = n / 65536 := Int.tdiv_eq_ediv_of_nonneg h0
  have q2 : IntKind.u32.wrap (n / 65536) = n / 65536 := by rw [IntKind.wrap_u32']; omega
  have q3 : IntKind.u16.wrap (n / 65536) = n / 65536 := by rw [IntKind.wrap_u16]; omega
  have q4 : IntKind.u16.wrap (n % 65536) = n % 65536 := by rw [IntKind.wrap_u16]; omega
  go_enter Tryz.func235, Tryz.ntmps235
  go_wp2_with fail
  refine (r_Put16 _ _ (by omega) (by omega)).mono ?_
  rintro e w1 ⟨rfl, hb1⟩
  go_wp2_with fail
  refine (r_Put16 _ _ (by omega) (by omega)).mono ?_
  rintro e w2 ⟨rfl, hb2⟩
  have hb2 := bstep hb1 hb2
  go_wp2_with fail
  go_ret
  exact ⟨ret_str (by rw [S_append]; rfl), hb2⟩

set_option maxHeartbeats 400000 in
theorem r_Word (A : Option Addr) (n c : Nat) (l : List Int) (w : World) (hr : Row w w.heap.size A n (ints16 l)) (hb : ∀ x ∈ l, 0 ≤ x ∧ x ≤ 65535) (hn : n ≤ 17592186044416) :
    Calls Tryz.prog 234 #[.slice A n c] w (Ret (.string (S (putW l))) w) := by
  have hl : l.length = n := by simpa [ints16] using hr.1
  have HB := hide hb
  have HL := hide hl
  clear hb hl
  have hn1 : n ≤ 9223372036854775807 := by omega
  go_enter Tryz.func234, Tryz.ntmps234
  go_wp2
  go_loopw [3, 4] (fun v i wr => ∃ k : Nat, k ≤ n ∧ i = .int .i64 k ∧ v = .string (S (putW (l.take k))) ∧ Below w.heap.size w wr) (fun _ i _ => n - (intOf i).toNat)
  case atStart => exact ⟨0, Nat.zero_le _, rfl, rfl, Below.refl _ _⟩
  case round =>
    obtain ⟨k, hk, rfl, rfl, hbl⟩ := hrel
    by_cases hlt : k < n
    · obtain ⟨b, o, rfl, hbo, hc⟩ := hr.at_ (by omega)
      have hcell : wr.cell? ⟨b, o + k, none⟩ = some (.int .u16 (l.getD k 0)) := (hbl.cell (p := ⟨b, o + k, none⟩) hbo).trans (hc k _ (ints16_at (by rw [HL.out]; exact hlt)))
      obtain ⟨x, hx⟩ : ∃ x, x = l.getD k 0 := ⟨_, rfl⟩
      rw [← hx] at hcell
      have hxb : 0 ≤ x ∧ x ≤ 65535 := by rw [hx]; exact HB.out _ (getD_mem (by rw [HL.out]; exact hlt))
      obtain ⟨hx0, hx1⟩ := hxb
      have HX := hide hx
      clear hx hc
      go_wp2_with fail
      refine (r_Put16 _ _ (by omega) (by omega)).mono ?_
      rintro e w1 ⟨rfl, hb1⟩
      have hb1 := bstep hbl hb1
      have z1 : (S (putW (l.take k))).size ≤ 35184372088832 := by rw [S_size, putW_length, List.length_take]; omega
      have z2 : (S (put16 x)).size ≤ 2 := by rw [S_size, put16_length]; omega
      go_wp2_with fail
      go_roundw
      case rel => exact ⟨k + 1, by omega, by go_num, v_str (by rw [S_append, take_snoc_int l k (by rw [HL.out]; exact hlt), putW_append, ← HX.out]; simp [putW]), hb1⟩
      case measure => simp [intOf]; omega
    · obtain rfl : k = n := by omega
      have e1 : l.take k = l := List.take_of_length_le (by rw [HL.out]; exact Nat.le_refl _)
      have E1 := hide e1
      clear e1
      go_wp2_with fail
      go_ret
      exact ⟨ret_str (by rw [E1.out]), hbl⟩

theorem r_With (s : ByteArray) (i : Int) (p : ByteArray) (w : World) (hs : s.size ≤ 140737488351232) (hp : p.size ≤ 140737488351232) (h1 : -9223372036854775808 ≤ i ∧ i ≤ 9223372036854775807) :
    Calls Tryz.prog 279 #[.string s, .int .i64 i, .string p] w (Ret (.tuple #[.string (S (putAt (L s) i (L p))), .bool (has s.size i p.size)]) w) := by
  have hw := r_there s i p.size w (by unfold maxLen; omega) h1 ⟨by omega, by omega⟩
  by_cases h : has s.size i p.size = true
  · have h' := h
    simp [has] at h'
    obtain ⟨k, rfl⟩ : ∃ k : Nat, i = k := ⟨i.toNat, by omega⟩
    have hg : putAt (L s) k (L p) = (L s).take k ++ (L p ++ (L s).drop (k + p.size)) := by unfold putAt; rw [L_length, L_length, if_pos h]; rfl
    rw [hg, h]
    rw [h] at hw
    have k1 : (k : Int) ≤ (s.size : Int) := by omega
    have k2 : (k : Int) + (p.size : Int) ≤ (s.size : Int) := by omega
    have k3 : k ≤ s.size := by omega
    have k4 : IntKind.i64.wrap ((k : Int) + (p.size : Int)) = (k : Int) + (p.size : Int) := IntWalk.i64_in _ (by omega)
    have k5 : ((k : Int) + (p.size : Int)).toNat = k + p.size := by omega
    have k6 : (0 : Int) ≤ (k : Int) + (p.size : Int) := by omega
    clear h hg h'
    go_enter Tryz.func279, Tryz.ntmps279
    go_wp2_with (go_at_call 289; refine hw.mono ?_; rintro e w' ⟨rfl, rfl⟩)
    go_quiet (fail)
    go_wp2
    go_ret2
    refine ⟨ret_two (v_str (eq_S ?_)) rfl, below_drewN (Below.refl _ _) _⟩
    rw [L_append, L_append, L_to, L_from, List.append_assoc]
  · have h' : has s.size i p.size = false := by simpa using h
    have hg : putAt (L s) i (L p) = [] := by unfold putAt; rw [L_length, L_length, if_neg h]
    rw [hg, h']
    rw [h'] at hw
    clear h h' hg
    go_enter Tryz.func279, Tryz.ntmps279
    go_wp2_with (go_at_call 289; refine hw.mono ?_; rintro e w' ⟨rfl, rfl⟩)
    go_ret2
    exact ⟨rfl, Below.refl _ _⟩
end Go.Proofs.YtedfdphapcanoaaGreatDoor
end
