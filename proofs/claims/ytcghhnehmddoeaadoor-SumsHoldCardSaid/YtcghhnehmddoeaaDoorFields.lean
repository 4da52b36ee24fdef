/- The package fields over this program: each function returns what the words of the base say. Conditions: texts below 2^47 bytes. -/
import Derived.Test.YtcghhnehmddoeaaDoorBase
import Derived.Test.YtcghhnehmddoeaaDoorBuilder
set_option linter.unusedVariables false
namespace Go.Proofs.YtcghhnehmddoeaaDoor
open Go.RowKit

theorem whole_any (s : ByteArray) (i many : Int) (w : World) (hs : s.size ≤ maxLen) (h1 : -9223372036854775808 ≤ i ∧ i ≤ 9223372036854775807) (h2 : 0 ≤ many ∧ many ≤ 9223372036854775807) :
    Calls Tryd.prog 27 #[.string s, .int .i64 i, .int .i64 many] w fun e w' => e = .returned (.bool (has s.size i many)) ∧ w = w' := by
  unfold maxLen at hs
  obtain ⟨h1a, h1b⟩ := h1
  obtain ⟨h2a, h2b⟩ := h2
  by_cases ha : 0 ≤ i
  · by_cases hc : many ≤ s.size
    · by_cases hd : i ≤ s.size - many
      · go_enter Tryd.func27, Tryd.ntmps27
        go_wp2
        go_ret
        exact ⟨ret_bool (by simp [has]; omega), rfl⟩
      · go_enter Tryd.func27, Tryd.ntmps27
        go_wp2
        go_ret
        exact ⟨ret_bool (by simp [has]; omega), rfl⟩
    · go_enter Tryd.func27, Tryd.ntmps27
      go_wp2
      go_ret
      exact ⟨ret_bool (by simp [has]; omega), rfl⟩
  · go_enter Tryd.func27, Tryd.ntmps27
    go_wp2
    go_ret
    exact ⟨ret_bool (by simp [has]; omega), rfl⟩

theorem Get16_in (s : ByteArray) (k : Nat) (w : World) (hs : s.size ≤ maxLen) (h : k + 2 ≤ s.size) :
    Calls Tryd.prog 17 #[.string s, .int .i64 k] w (Quiet (.tuple #[.int .u16 (be16 (L s) k), .bool true]) w) := by
  have hs' := hs
  unfold maxLen at hs'
  have hx : has s.size k 2 = true := by simp [has]; omega
  have hw := whole_any s k 2 w hs ⟨by omega, by omega⟩ ⟨by omega, by omega⟩
  rw [hx] at hw
  have e1 := getElem_L s k (by omega)
  have e2 := getElem_L s (k + 1) (by omega)
  have fin : bits BinOp.or IntKind.u16 (IntKind.u16.wrap (IntKind.u16.wrap (s[k]'(by omega)).toNat * 256)) (IntKind.u16.wrap (s[k + 1]'(by omega)).toNat) = be16 (L s) k := by
    have b1 := at_bd (L s) k
    have b2 := at_bd (L s) (k + 1)
    rw [e1, e2]
    exact or16w _ _ b1.1 b1.2 b2.1 b2.2
  have HF := hide fin
  clear fin e1 e2 hx
  have k1 : (0 : Int) ≤ (k : Int) := by omega
  have k2 : (k : Int) < (s.size : Int) := by omega
  have k3 : (0 : Int) ≤ (k : Int) + 1 := by omega
  have k4 : (k : Int) + 1 < (s.size : Int) := by omega
  have k5 : k < s.size := by omega
  have k6 : k + 1 < s.size := by omega
  have k7 : ((k : Int) + 1).toNat = k + 1 := by omega
  have k8 : IntKind.i64.wrap ((k : Int) + 1) = (k : Int) + 1 := IntWalk.i64_in _ (by omega)
  go_enter Tryd.func17, Tryd.ntmps17
  go_wp2_with (go_at_call 27; refine hw.mono ?_; rintro e w' ⟨rfl, rfl⟩)
  go_quiet (fail)
  go_wp2
  go_ret2
  exact ⟨ret_two (v_int HF.out) rfl, nq, rfl⟩

theorem Get16_out (s : ByteArray) (i : Int) (w : World) (hs : s.size ≤ maxLen) (h1 : -9223372036854775808 ≤ i ∧ i ≤ 9223372036854775807) (h : has s.size i 2 = false) :
    Calls Tryd.prog 17 #[.string s, .int .i64 i] w (Quiet (.tuple #[.int .u16 0, .bool false]) w) := by
  have hw := whole_any s i 2 w hs h1 ⟨by omega, by omega⟩
  rw [h] at hw
  clear h
  go_enter Tryd.func17, Tryd.ntmps17
  go_wp2_with (go_at_call 27; refine hw.mono ?_; rintro e w' ⟨rfl, rfl⟩)
  go_ret2
  exact ⟨rfl, 0, rfl⟩

theorem get16_nat {l : List UInt8} {k : Nat} (h : k + 2 ≤ l.length) : get16 l k = be16 l k := by
  unfold get16; rw [if_pos (by simp [has]; omega)]; simp
theorem get32_nat {l : List UInt8} {k : Nat} (h : k + 4 ≤ l.length) : get32 l k = be32 l k := by
  unfold get32; rw [if_pos (by simp [has]; omega)]; simp

/-- Get16, at any place -/
theorem Get16_q (s : ByteArray) (i : Int) (w : World) (hs : s.size ≤ maxLen) (h1 : -9223372036854775808 ≤ i ∧ i ≤ 9223372036854775807) :
    Calls Tryd.prog 17 #[.string s, .int .i64 i] w (Quiet (.tuple #[.int .u16 (get16 (L s) i), .bool (has s.size i 2)]) w) := by
  by_cases h : has s.size i 2 = true
  · have h' := h
    simp [has] at h'
    obtain ⟨k, rfl⟩ : ∃ k : Nat, i = k := ⟨i.toNat, by omega⟩
    have h2 : k + 2 ≤ (L s).length := by rw [L_length]; omega
    rw [get16_nat h2, h]
    exact Get16_in s k w hs (by omega)
  · have h' : has s.size i 2 = false := by simpa using h
    have hg : get16 (L s) i = 0 := by unfold get16; rw [L_length, if_neg h]
    rw [hg, h']
    exact Get16_out s i w hs h1 h'
theorem Get16 (s : ByteArray) (i : Int) (w : World) (hs : s.size ≤ maxLen) (h1 : -9223372036854775808 ≤ i ∧ i ≤ 9223372036854775807) :
    Calls Tryd.prog 17 #[.string s, .int .i64 i] w (Ret (.tuple #[.int .u16 (get16 (L s) i), .bool (has s.size i 2)]) w) :=
  (Get16_q s i w hs h1).mono fun _ _ h => h.ret

/-! ### With -/
theorem strCells_L (s : ByteArray) : Lib.strCells s = Lib.byteCells (L s) := by
  unfold Lib.strCells Lib.byteCells L; rfl
theorem fresh_below (w : World) (o : Obj) : Below w.heap.size w (w.alloc o) := (Below.refl _ _).alloc (Nat.le_refl _) _

/-! ### Word, Put16, Put32 -/
def ints16 (l : List Int) : List Value := l.map (Value.int .u16)
theorem ints16_at {l : List Int} {j : Nat} (h : j < l.length) : (ints16 l)[j]? = some (.int .u16 (l.getD j 0)) := by
  simp [ints16, List.getD_eq_getElem?_getD, List.getElem?_eq_getElem h]
theorem take_snoc_int (l : List Int) (k : Nat) (h : k < l.length) : l.take (k + 1) = l.take k ++ [l.getD k 0] := by
  rw [List.take_succ_eq_append_getElem h, List.getD_eq_getElem?_getD, List.getElem?_eq_getElem h]; rfl
theorem byteCells_put16 (l : List UInt8) (n c d : Int) (h0 : 0 ≤ n) (hc : c = n / 256 % 256) (hd : d = n % 256) : Lib.byteCells l ++ [.int .u8 c] ++ [.int .u8 d] = Lib.byteCells (l ++ put16 n) := by
  subst hc hd
  simp only [Lib.byteCells, put16, List.map_append, List.map_cons, List.map_nil, byt_int n h0, byt_int (n / 256) (by omega), List.append_assoc, List.cons_append, List.nil_append]

theorem getD_mem {l : List Int} {k : Nat} (h : k < l.length) : l.getD k 0 ∈ l := by
  rw [List.getD_eq_getElem?_getD, List.getElem?_eq_getElem h]; exact List.getElem_mem h

set_option maxHeartbeats 400000 in
theorem Word (A : Option Addr) (n c : Nat) (l : List Int) (w : World) (hr : Row w w.heap.size A n (ints16 l)) (hb : ∀ x ∈ l, 0 ≤ x ∧ x ≤ 65535) (hn : n ≤ 17592186044416) :
    Calls Tryd.prog 7 #[.slice A n c] w (Ret (.string (S (putW l))) w) := by
  have hl : l.length = n := by simpa [ints16] using hr.1
  have hfr := Lib.fresh_isBuilder 39 5 w
  have hbel := fresh_below w (.cells #[.pointer none, .slice none 0 0] 39)
  have HB := hide hb
  have HL := hide hl
  clear hb hl
  have hn1 : n ≤ 9223372036854775807 := by omega
  go_enter Tryd.func7, Tryd.ntmps7
  go_wp2
  go_loopw [8] (fun i wr => ∃ k : Nat, k ≤ n ∧ i = .int .i64 k ∧ Lib.IsBuilder 39 5 w.heap.size w.heap.size (Lib.byteCells (putW (l.take k))) wr ∧ Below w.heap.size w wr) (fun i _ => n - (intOf i).toNat)
  case atStart => exact ⟨0, Nat.zero_le _, rfl, hfr, hbel⟩
  case round =>
    obtain ⟨k, hk, rfl, hB, hbl⟩ := hrel
    have l0 := hbl.size
    by_cases hlt : k < n
    · obtain ⟨b, o, rfl, hbo, hc⟩ := hr.at_ (by omega)
      have hcell : wr.cell? ⟨b, o + k, none⟩ = some (.int .u16 (l.getD k 0)) := (hbl.cell (p := ⟨b, o + k, none⟩) hbo).trans (hc k _ (ints16_at (by rw [HL.out]; exact hlt)))
      obtain ⟨x, hx⟩ : ∃ x, x = l.getD k 0 := ⟨_, rfl⟩
      rw [← hx] at hcell
      have hxb : 0 ≤ x ∧ x ≤ 65535 := by rw [hx]; exact HB.out _ (getD_mem (by rw [HL.out]; exact hlt))
      obtain ⟨hx0, hx1⟩ := hxb
      have HX := hide hx
      clear hx hc
      have hlen : (putW (l.take k)).length = 2 * k := by rw [putW_length, List.length_take, HL.out]; omega
      have HLen := hide hlen
      clear hlen
      go_wp2_with fail
      refine (Builder_WriteByte _ _ _ _ _ hB (by simp [Lib.byteCells_length, HLen.out]; omega) l0).mono ?_
      rintro e w1 ⟨rfl, hB1, hb1⟩
      have hb1 := hbl.trans hb1
      have l1 := hb1.size
      clear hB
      go_wp2_with fail
      refine (Builder_WriteByte _ _ _ _ _ (.inr hB1) (by simp [Lib.byteCells_length, HLen.out]; omega) l1).mono ?_
      rintro e w2 ⟨rfl, hB2, hb2⟩
      have hb2 := hb1.trans hb2
      rw [byteCells_put16 _ x _ _ hx0 (by omega) (by first | omega | (rw [IntKind.wrap_u8']))] at hB2
      clear hB1
      have hB3 : Lib.IsBuilder 39 5 w.heap.size w.heap.size (Lib.byteCells (putW (l.take (k + 1)))) w2 := by
        rw [take_snoc_int l k (by rw [HL.out]; exact hlt), putW_append, ← HX.out]
        exact .inr (by simpa [putW] using hB2)
      clear hB2
      go_wp2_with fail
      go_roundw
      case rel => exact ⟨k + 1, by omega, by go_num, hB3, hb2⟩
      case measure => simp [intOf]; omega
    · obtain rfl : k = n := by omega
      rw [List.take_of_length_le (by rw [HL.out]; exact Nat.le_refl _)] at hB
      go_wp2_with fail
      refine (Builder_String _ _ _ _ hB l0).mono ?_
      rintro e w1 ⟨rfl, hb1⟩
      have hb1 := hbl.trans hb1
      go_wp2_with fail
      go_ret
      exact ⟨rfl, hb1⟩

end Go.Proofs.YtcghhnehmddoeaaDoor
