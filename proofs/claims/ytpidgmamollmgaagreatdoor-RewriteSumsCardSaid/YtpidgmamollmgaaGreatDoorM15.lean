/- Several texts of this claim, one behind the other. -/
import Derived.Test.YtpidgmamollmgaaGreatDoorM14
import Derived.Deep.QuietTactic
import Derived.BigQuiet

section
/- A segment's header and its bytes: plain facts. No walk. -/
set_option linter.unusedVariables false
namespace Go.Proofs.YtpidgmamollmgaaGreatDoor
open Go.RowKit

/-- no segment's header -/
def segNone : Seg := ⟨0, 0, 0, 0, 0, 0, 0, 0, 0, { data := #[] }⟩
def segRes (s : ByteArray) : Seg := if tcpIs s = true then segOf s else segNone
def segRest (s : ByteArray) : ByteArray := if tcpIs s = true then s.extract (tcpOwn (L s)).toNat s.size else { data := #[] }
def Seg.text (h : Seg) (p : ByteArray) : ByteArray := if h.may = true then S (h.put p) else { data := #[] }
def Seg.err (h : Seg) : Int := if h.may = true then 0 else 2

theorem put16_be (a b : UInt8) : put16 ((a.toNat : Int) * 256 + (b.toNat : Int)) = [a, b] := by
  have ha := a.toNat_lt
  have hb := b.toNat_lt
  unfold put16
  congr 1
  · apply UInt8.toNat_inj.1; rw [byt_toNat]; omega
  · congr 1
    apply UInt8.toNat_inj.1; rw [byt_toNat]; omega
theorem put32_be (a b c d : UInt8) : put32 (((a.toNat : Int) * 256 + (b.toNat : Int)) * 65536 + ((c.toNat : Int) * 256 + (d.toNat : Int))) = [a, b, c, d] := by
  have ha := a.toNat_lt
  have hb := b.toNat_lt
  have hc := c.toNat_lt
  have hd := d.toNat_lt
  unfold put32
  rw [show (((a.toNat : Int) * 256 + (b.toNat : Int)) * 65536 + ((c.toNat : Int) * 256 + (d.toNat : Int))) / 65536 = (a.toNat : Int) * 256 + (b.toNat : Int) from by omega,
    show (((a.toNat : Int) * 256 + (b.toNat : Int)) * 65536 + ((c.toNat : Int) * 256 + (d.toNat : Int))) % 65536 = (c.toNat : Int) * 256 + (d.toNat : Int) from by omega, put16_be, put16_be]
  rfl
theorem bb (n : Int) (h0 : 0 ≤ n) (h1 : n ≤ 65535) : ((byt (n / 256)).toNat : Int) * 256 + ((byt n).toNat : Int) = n := by
  rw [byt_int _ (by omega), byt_int _ h0]; omega

theorem twenty {l : List UInt8} (h : 20 ≤ l.length) : ∃ b0 b1 b2 b3 b4 b5 b6 b7 b8 b9 b10 b11 b12 b13 b14 b15 b16 b17 b18 b19 r, l = b0 :: b1 :: b2 :: b3 :: b4 :: b5 :: b6 :: b7 :: b8 :: b9 :: b10 :: b11 :: b12 :: b13 :: b14 :: b15 :: b16 :: b17 :: b18 :: b19 :: r := by
  obtain ⟨b0, l, rfl⟩ := List.exists_cons_of_length_pos (show 0 < l.length by (try simp only [List.length_cons] at h); omega)
  obtain ⟨b1, l, rfl⟩ := List.exists_cons_of_length_pos (show 0 < l.length by (try simp only [List.length_cons] at h); omega)
  obtain ⟨b2, l, rfl⟩ := List.exists_cons_of_length_pos (show 0 < l.length by (try simp only [List.length_cons] at h); omega)
  obtain ⟨b3, l, rfl⟩ := List.exists_cons_of_length_pos (show 0 < l.length by (try simp only [List.length_cons] at h); omega)
  obtain ⟨b4, l, rfl⟩ := List.exists_cons_of_length_pos (show 0 < l.length by (try simp only [List.length_cons] at h); omega)
  obtain ⟨b5, l, rfl⟩ := List.exists_cons_of_length_pos (show 0 < l.length by (try simp only [List.length_cons] at h); omega)
  obtain ⟨b6, l, rfl⟩ := List.exists_cons_of_length_pos (show 0 < l.length by (try simp only [List.length_cons] at h); omega)
  obtain ⟨b7, l, rfl⟩ := List.exists_cons_of_length_pos (show 0 < l.length by (try simp only [List.length_cons] at h); omega)
  obtain ⟨b8, l, rfl⟩ := List.exists_cons_of_length_pos (show 0 < l.length by (try simp only [List.length_cons] at h); omega)
  obtain ⟨b9, l, rfl⟩ := List.exists_cons_of_length_pos (show 0 < l.length by (try simp only [List.length_cons] at h); omega)
  obtain ⟨b10, l, rfl⟩ := List.exists_cons_of_length_pos (show 0 < l.length by (try simp only [List.length_cons] at h); omega)
  obtain ⟨b11, l, rfl⟩ := List.exists_cons_of_length_pos (show 0 < l.length by (try simp only [List.length_cons] at h); omega)
  obtain ⟨b12, l, rfl⟩ := List.exists_cons_of_length_pos (show 0 < l.length by (try simp only [List.length_cons] at h); omega)
  obtain ⟨b13, l, rfl⟩ := List.exists_cons_of_length_pos (show 0 < l.length by (try simp only [List.length_cons] at h); omega)
  obtain ⟨b14, l, rfl⟩ := List.exists_cons_of_length_pos (show 0 < l.length by (try simp only [List.length_cons] at h); omega)
  obtain ⟨b15, l, rfl⟩ := List.exists_cons_of_length_pos (show 0 < l.length by (try simp only [List.length_cons] at h); omega)
  obtain ⟨b16, l, rfl⟩ := List.exists_cons_of_length_pos (show 0 < l.length by (try simp only [List.length_cons] at h); omega)
  obtain ⟨b17, l, rfl⟩ := List.exists_cons_of_length_pos (show 0 < l.length by (try simp only [List.length_cons] at h); omega)
  obtain ⟨b18, l, rfl⟩ := List.exists_cons_of_length_pos (show 0 < l.length by (try simp only [List.length_cons] at h); omega)
  obtain ⟨b19, l, rfl⟩ := List.exists_cons_of_length_pos (show 0 < l.length by (try simp only [List.length_cons] at h); omega)
  exact ⟨b0, b1, b2, b3, b4, b5, b6, b7, b8, b9, b10, b11, b12, b13, b14, b15, b16, b17, b18, b19, l, rfl⟩

theorem segOf_ok {s : ByteArray} (hs : s.size ≤ 140737488351232) : (segOf s).Ok := by
  have hb := at_bd (L s) 12
  refine ⟨get16_bd _ _, get16_bd _ _, get32_bd _ _, get32_bd _ _, ?_, at_bd _ _, get16_bd _ _, get16_bd _ _, get16_bd _ _, ?_⟩
  · show 0 ≤ at_ (L s) 12 % 16 ∧ at_ (L s) 12 % 16 ≤ 255
    omega
  · show (s.extract 20 _).size ≤ _
    rw [ByteArray.size_extract]; omega
theorem segNone_ok : segNone.Ok := by unfold segNone Seg.Ok; decide
theorem segRes_ok {s : ByteArray} (hs : s.size ≤ 140737488351232) : (segRes s).Ok := by
  unfold segRes; split
  · exact segOf_ok hs
  · exact segNone_ok

theorem tcp_same (s : ByteArray) (h : tcpIs s = true) : (segOf s).may = true ∧ S ((segOf s).put (s.extract (tcpOwn (L s)).toNat s.size)) = s := by
  have h1 : 20 ≤ s.size ∧ 20 ≤ tcpOwn (L s) ∧ tcpOwn (L s) ≤ s.size := by unfold tcpIs at h; simpa [and_assoc] using h
  obtain ⟨h20, o20, oN⟩ := h1
  have hb := at_bd (L s) 12
  have hbf := at_bd (L s) 13
  have ho : (segOf s).o.size = (tcpOwn (L s)).toNat - 20 := by
    show (s.extract 20 _).size = _
    rw [ByteArray.size_extract]; omega
  have hx : tcpOwn (L s) = at_ (L s) 12 / 16 * 4 := rfl
  have hl : (segOf s).l = at_ (L s) 12 % 16 := rfl
  refine ⟨?_, ?_⟩
  · unfold Seg.may
    rw [ho, hl]
    simp only [Bool.and_eq_true, decide_eq_true_eq]
    omega
  · apply L_inj
    rw [L_S]
    have hoff : (segOf s).off = at_ (L s) 12 * 256 + at_ (L s) 13 := by
      show (20 + ((segOf s).o.size : Int)) / 4 * 4096 + (segOf s).l * 256 + at_ (L s) 13 = _
      rw [ho, hl]
      omega
    have htail : L (segOf s).o ++ L (s.extract (tcpOwn (L s)).toNat s.size) = (L s).drop 20 := by
      show L (s.extract 20 _) ++ _ = _
      rw [L_extract, L_from, show (L s).drop (tcpOwn (L s)).toNat = ((L s).drop 20).drop ((tcpOwn (L s)).toNat - 20) from by rw [List.drop_drop]; congr 1; omega]
      exact List.take_append_drop _ _
    show (segOf s).head ++ L (segOf s).o ++ L (s.extract (tcpOwn (L s)).toNat s.size) = L s
    rw [List.append_assoc, htail]
    unfold Seg.head
    rw [hoff]
    have e0 : (segOf s).s = be16 (L s) 0 := by show get16 (L s) ((0 : Nat) : Int) = _; exact get16_nat (by rw [L_length]; omega)
    have e1 : (segOf s).d = be16 (L s) 2 := by show get16 (L s) ((2 : Nat) : Int) = _; exact get16_nat (by rw [L_length]; omega)
    have e2 : (segOf s).q = be32 (L s) 4 := by show get32 (L s) ((4 : Nat) : Int) = _; exact get32_nat (by rw [L_length]; omega)
    have e3 : (segOf s).k = be32 (L s) 8 := by show get32 (L s) ((8 : Nat) : Int) = _; exact get32_nat (by rw [L_length]; omega)
    have e4 : (segOf s).w = be16 (L s) 14 := by show get16 (L s) ((14 : Nat) : Int) = _; exact get16_nat (by rw [L_length]; omega)
    have e5 : (segOf s).n = be16 (L s) 16 := by show get16 (L s) ((16 : Nat) : Int) = _; exact get16_nat (by rw [L_length]; omega)
    have e6 : (segOf s).u = be16 (L s) 18 := by show get16 (L s) ((18 : Nat) : Int) = _; exact get16_nat (by rw [L_length]; omega)
    rw [e0, e1, e2, e3, e4, e5, e6]
    obtain ⟨b0, b1, b2, b3, b4, b5, b6, b7, b8, b9, b10, b11, b12, b13, b14, b15, b16, b17, b18, b19, r, hr⟩ := twenty (l := L s) (by rw [L_length]; exact h20)
    rw [hr]
    simp only [be16, be32, putW, List.flatMap_cons, List.flatMap_nil, at_cons0, at_cons1, List.append_nil, List.drop_succ_cons, List.drop_zero]
    rw [put16_be, put16_be, put16_be, put16_be, put16_be, put16_be, put32_be, put32_be]
    rfl

theorem tcp_back (h : Seg) (p : ByteArray) (hk : h.Ok) (hm : h.may = true) :
    (S (h.put p)).size = 20 + h.o.size + p.size ∧ tcpIs (S (h.put p)) = true ∧ segOf (S (h.put p)) = h ∧ (S (h.put p)).extract (tcpOwn (L (S (h.put p)))).toNat (S (h.put p)).size = p := by
  obtain ⟨hs, hd, hq, hkk, ⟨l0, l1⟩, ⟨f0, f1⟩, hw, hn, hu, ho⟩ := hk
  unfold Seg.may at hm
  simp only [Bool.and_eq_true, decide_eq_true_eq] at hm
  obtain ⟨⟨h1, h2⟩, h3⟩ := hm
  have hoff : put16 h.off = [byt (80 + 4 * (h.o.size : Int) + h.l), byt h.f] := off_bytes h.s h.d h.q h.k h.l h.f h.w h.n h.u h.o ⟨l0, h3⟩ ⟨f0, f1⟩ h1 h2
  have hl : h.put p = byt (h.s / 256) :: byt h.s :: byt (h.d / 256) :: byt h.d :: byt (h.q / 65536 / 256) :: byt (h.q / 65536) :: byt (h.q % 65536 / 256) :: byt (h.q % 65536) :: byt (h.k / 65536 / 256) :: byt (h.k / 65536) :: byt (h.k % 65536 / 256) :: byt (h.k % 65536)
      :: byt (80 + 4 * (h.o.size : Int) + h.l) :: byt h.f :: byt (h.w / 256) :: byt h.w :: byt (h.n / 256) :: byt h.n :: byt (h.u / 256) :: byt h.u :: (L h.o ++ L p) := by
    unfold Seg.put Seg.head
    simp only [putW, List.flatMap_cons, List.flatMap_nil, hoff, List.append_assoc, List.append_nil]
    rfl
  have hz : (h.put p).length = 20 + h.o.size + p.size := by
    rw [hl]; simp only [List.length_cons, List.length_append, L_length]; omega
  have h12 : at_ (h.put p) 12 = 80 + 4 * (h.o.size : Int) + h.l := by
    rw [hl]; show ((byt _).toNat : Int) = _; rw [byt_int _ (by omega)]; omega
  have hown : tcpOwn (h.put p) = 20 + h.o.size := by unfold tcpOwn; rw [h12]; omega
  have hd20 : (h.put p).drop 20 = L h.o ++ L p := by rw [hl]; rfl
  refine ⟨by rw [S_size, hz], ?_, ?_, ?_⟩
  · unfold tcpIs
    rw [L_S, S_size, hown, hz]
    simp only [Bool.and_eq_true, decide_eq_true_eq]
    omega
  · have g16 : ∀ k : Nat, k + 2 ≤ 20 → get16 (h.put p) (k : Int) = be16 (h.put p) k := fun k hk => get16_nat (by omega)
    have g32 : ∀ k : Nat, k + 4 ≤ 20 → get32 (h.put p) (k : Int) = be32 (h.put p) k := fun k hk => get32_nat (by omega)
    have e0 : get16 (h.put p) ((0 : Nat) : Int) = h.s := by rw [g16 0 (by omega), hl]; exact bb _ hs.1 hs.2
    have e1 : get16 (h.put p) ((2 : Nat) : Int) = h.d := by rw [g16 2 (by omega), hl]; exact bb _ hd.1 hd.2
    have e2 : get32 (h.put p) ((4 : Nat) : Int) = h.q := by
      rw [g32 4 (by omega), hl]
      show (((byt _).toNat : Int) * 256 + ((byt _).toNat : Int)) * 65536 + (((byt _).toNat : Int) * 256 + ((byt _).toNat : Int)) = h.q
      rw [bb _ (by omega) (by omega), bb _ (by omega) (by omega)]; omega
    have e3 : get32 (h.put p) ((8 : Nat) : Int) = h.k := by
      rw [g32 8 (by omega), hl]
      show (((byt _).toNat : Int) * 256 + ((byt _).toNat : Int)) * 65536 + (((byt _).toNat : Int) * 256 + ((byt _).toNat : Int)) = h.k
      rw [bb _ (by omega) (by omega), bb _ (by omega) (by omega)]; omega
    have e4 : at_ (h.put p) 13 = h.f := by rw [hl]; show ((byt _).toNat : Int) = _; rw [byt_int _ f0]; omega
    have e5 : get16 (h.put p) ((14 : Nat) : Int) = h.w := by rw [g16 14 (by omega), hl]; exact bb _ hw.1 hw.2
    have e6 : get16 (h.put p) ((16 : Nat) : Int) = h.n := by rw [g16 16 (by omega), hl]; exact bb _ hn.1 hn.2
    have e7 : get16 (h.put p) ((18 : Nat) : Int) = h.u := by rw [g16 18 (by omega), hl]; exact bb _ hu.1 hu.2
    have e8 : (S (h.put p)).extract 20 (tcpOwn (h.put p)).toNat = h.o := by
      apply L_inj
      rw [L_extract, L_S, hd20, hown, show (20 + (h.o.size : Int)).toNat - 20 = (L h.o).length from by rw [L_length]; omega]
      exact List.take_left
    have e9 : at_ (h.put p) 12 % 16 = h.l := by rw [h12]; omega
    show Seg.mk (get16 (h.put p) ((0 : Nat) : Int)) (get16 (h.put p) ((2 : Nat) : Int)) (get32 (h.put p) ((4 : Nat) : Int)) (get32 (h.put p) ((8 : Nat) : Int)) (at_ (h.put p) 12 % 16) (at_ (h.put p) 13) (get16 (h.put p) ((14 : Nat) : Int)) (get16 (h.put p) ((16 : Nat) : Int)) (get16 (h.put p) ((18 : Nat) : Int)) ((S (h.put p)).extract 20 (tcpOwn (h.put p)).toNat) = h
    rw [e0, e1, e2, e3, e4, e5, e6, e7, e8, e9]
  · apply L_inj
    rw [L_from, L_S, hown, show (20 + (h.o.size : Int)).toNat = 20 + (L h.o).length from by rw [L_length]; omega, ← List.drop_drop, hd20]
    exact List.drop_left
end Go.Proofs.YtpidgmamollmgaaGreatDoor
end

section
/- ip over this program: what stands in a header, how many bytes it and its packet have. -/
set_option linter.unusedVariables false
namespace Go.Proofs.YtpidgmamollmgaaGreatDoor
open Go.RowKit
attribute [local go_sem] Oper.semAt_some

theorem i_two (s : ByteArray) (k : Nat) (w : World) (hs : s.size ≤ maxLen) (h : k + 2 ≤ s.size) :
    Calls Tryz.prog 34 #[.string s, .int .i64 k] w (Quiet (.int .u16 (get16 (L s) k)) w) := by
  have c := fun w => Get16_in s k w hs h
  rw [← get16_nat (l := L s) (k := k) (by rw [L_length]; exact h)] at c
  obtain ⟨x, hx⟩ : ∃ x, x = get16 (L s) k := ⟨_, rfl⟩
  rw [← hx] at c ⊢
  have C := hide c
  clear c hx
  go_enter Tryz.func34, Tryz.ntmps34
  go_wp2_with fail
  (with_reducible refine (C.out _).mono ?_)
  rintro e w1 ⟨rfl, n1, rfl⟩
  go_wp2_with fail
  go_ret
  exact ⟨rfl, _, rfl⟩
theorem i_addr (s : ByteArray) (k : Nat) (w : World) (hs : s.size ≤ maxLen) (h : k + 4 ≤ s.size) :
    Calls Tryz.prog 35 #[.string s, .int .i64 k] w (Quiet (.int .u32 (get32 (L s) k)) w) := by
  have c := fun w => Get32_in s k w hs h
  rw [← get32_nat (l := L s) (k := k) (by rw [L_length]; exact h)] at c
  obtain ⟨x, hx⟩ : ∃ x, x = get32 (L s) k := ⟨_, rfl⟩
  have hxb : 0 ≤ x ∧ x ≤ 4294967295 := by rw [hx]; exact get32_bd _ _
  rw [← hx] at c ⊢
  have C := hide c
  clear c hx
  go_enter Tryz.func35, Tryz.ntmps35
  go_wp2_with fail
  (with_reducible refine (C.out _).mono ?_)
  rintro e w1 ⟨rfl, n1, rfl⟩
  go_wp2_with fail
  go_ret
  exact ⟨rfl, _, rfl⟩
theorem r4_number (s : ByteArray) (k : Nat) (w : World) (hs : s.size ≤ maxLen) (h : k + 2 ≤ s.size) :
    Calls Tryz.prog 49 #[.string s, .int .i64 k] w (fun e w' => e = .returned (.int .i64 (get16 (L s) k)) ∧ w' = w) := by
  have c := fun w => q_Get16 s k w hs h
  obtain ⟨x, hx⟩ : ∃ x, x = get16 (L s) k := ⟨_, rfl⟩
  have hxb : 0 ≤ x ∧ x ≤ 65535 := by rw [hx]; exact get16_bd _ _
  rw [← hx] at c ⊢
  have C := hide c
  clear c hx
  go_enter Tryz.func49, Tryz.ntmps49
  go_wp2_with fail
  (with_reducible refine (C.out _).mono ?_)
  rintro e w1 ⟨rfl, rfl⟩
  go_wp2_with fail
  go_ret
  exact ⟨rfl, rfl⟩
theorem r4_addr (s : ByteArray) (k : Nat) (w : World) (hs : s.size ≤ maxLen) (h : k + 4 ≤ s.size) :
    Calls Tryz.prog 51 #[.string s, .int .i64 k] w (fun e w' => e = .returned (.int .u32 (get32 (L s) k)) ∧ w' = w) := by
  have c := fun w => q_Get32 s k w hs h
  obtain ⟨x, hx⟩ : ∃ x, x = get32 (L s) k := ⟨_, rfl⟩
  have hxb : 0 ≤ x ∧ x ≤ 4294967295 := by rw [hx]; exact get32_bd _ _
  rw [← hx] at c ⊢
  have C := hide c
  clear c hx
  go_enter Tryz.func51, Tryz.ntmps51
  go_wp2_with fail
  (with_reducible refine (C.out _).mono ?_)
  rintro e w1 ⟨rfl, rfl⟩
  go_wp2_with fail
  go_ret
  exact ⟨rfl, rfl⟩

/-- how many bytes a header has, and its packet -/
def ipOwn (l : List UInt8) : Int := at_ l 0 % 16 * 4
def ipAll (l : List UInt8) : Int := get16 l 2
def ipFits (s : ByteArray) : Bool := decide (20 ≤ ipOwn (L s)) && decide (ipOwn (L s) ≤ ipAll (L s)) && decide (ipAll (L s) ≤ s.size) && decide (ipAll (L s) ≤ 2048)

set_option maxHeartbeats 2000000 in
theorem i_lengths (s : ByteArray) (w : World) (hs : s.size ≤ 140737488351232) (h : 20 ≤ s.size) :
    Calls Tryz.prog 33 #[.string s] w (Quiet (.tuple #[.int .i64 (ipOwn (L s)), .int .i64 (ipAll (L s)), .bool (ipFits s)]) w) := by
  have e0 : (((s[0]'(by omega)).toNat : Nat) : Int) = at_ (L s) 0 := by rw [getElem_L s 0 (by omega)]; rfl
  have hb := at_bd (L s) 0
  have i4 : (0 : Int) < (s.size : Int) := by omega
  have i5 : 0 < s.size := by omega
  have c := fun w => i_two s 2 w (by unfold maxLen; omega) (by omega)
  rw [show ((2 : Nat) : Int) = 2 from rfl] at c
  obtain ⟨f, hf⟩ : ∃ f, f = ipFits s := ⟨_, rfl⟩
  rw [← hf]
  unfold ipFits at hf
  have hy := get16_bd (L s) 2
  unfold ipAll ipOwn at hf ⊢
  obtain ⟨y, hy0⟩ : ∃ y, y = get16 (L s) 2 := ⟨_, rfl⟩
  obtain ⟨x, hx0⟩ : ∃ x, x = at_ (L s) 0 := ⟨_, rfl⟩
  rw [← hy0] at hf hy c ⊢
  rw [← hx0] at hf hb e0 ⊢
  have C := hide c
  clear c hy0 hx0
  have hcase : (f = false ∧ ¬ 20 ≤ x % 16 * 4) ∨ (f = false ∧ 20 ≤ x % 16 * 4 ∧ ¬ x % 16 * 4 ≤ y) ∨ (f = false ∧ 20 ≤ x % 16 * 4 ∧ x % 16 * 4 ≤ y ∧ ¬ y ≤ s.size) ∨ (f = false ∧ 20 ≤ x % 16 * 4 ∧ x % 16 * 4 ≤ y ∧ y ≤ s.size ∧ ¬ y ≤ 2048) ∨ (f = true ∧ 20 ≤ x % 16 * 4 ∧ x % 16 * 4 ≤ y ∧ y ≤ s.size ∧ y ≤ 2048) := by
    by_cases a1 : 20 ≤ x % 16 * 4 <;> by_cases a2 : x % 16 * 4 ≤ y <;> by_cases a3 : y ≤ (s.size : Int) <;> by_cases a4 : y ≤ 2048 <;> simp [a1, a2, a3, a4] at hf <;> simp [a1, a2, a3, a4, hf]
  clear hf
  rcases hcase with ⟨rfl, q1⟩ | ⟨rfl, q1, q2⟩ | ⟨rfl, q1, q2, q3⟩ | ⟨rfl, q1, q2, q3, q4⟩ | ⟨rfl, q1, q2, q3, q4⟩
  all_goals
    go_enter Tryz.func33, Tryz.ntmps33
    go_wp2_with fail
    go_quiet ((go_at_call 34; refine Calls.quiet_of (C.out _)))
    go_wp2
    (try simp only [Exit.inBlock, Exit.then]); refine bodyPost_ret (by simp [results, Tryz.results33, go_sem]; try rfl) rfl ?_
    exact ⟨by first | rfl | (simp; omega), _, rfl⟩
end Go.Proofs.YtpidgmamollmgaaGreatDoor
end
