/- Several texts of this claim, one behind the other. -/
import Derived.Test.YtjeaknipmdfkdaaGreatDoorK12
import Derived.Test.YtjeaknipmdfkdaaGreatDoorK2
import Derived.Test.YtjeaknipmdfkdaaGreatDoorK7
import Derived.Test.YtjeaknipmdfkdaaGreatDoorK0
import Derived.Test.YtjeaknipmdfkdaaGreatDoorK4
import Derived.Deep.RegionHeldLaw
import Derived.Deep.RegionHeld3
import Derived.StillTailTactics
import Derived.Test.YtjeaknipmdfkdaaGreatDoorK5

section
/- A header of ip and its bytes: plain facts. No walk. -/
set_option linter.unusedVariables false
namespace Go.Proofs.YtjeaknipmdfkdaaGreatDoor
open Go.RowKit

def ipErr (h : Hd) (p : ByteArray) : Int := if 40 < h.o.size ∨ h.o.size % 4 ≠ 0 then 2 else if 2028 < h.o.size + p.size then 4 else 0
def Hd.all (h : Hd) (p : ByteArray) : Int := 20 + (h.o.size : Int) + p.size
def Hd.sum (h : Hd) (p : ByteArray) : Int := sumL [h.bytes (h.all p) 0]
def Hd.put (h : Hd) (p : ByteArray) : List UInt8 := h.bytes (h.all p) (h.sum p) ++ L p
def ipText (h : Hd) (p : ByteArray) : ByteArray := if ipErr h p = 0 then S (h.put p) else { data := #[] }
def hdRes (s : ByteArray) : Hd := if ipWhy s = 0 then hdOf s else hdNone
def ipRest (s : ByteArray) : ByteArray := if ipWhy s = 0 then s.extract (ipOwn (L s)).toNat (ipAll (L s)).toNat else { data := #[] }

theorem Hd.cut_bd (h : Hd) : h.cut = 0 ∨ h.cut = 16384 := by unfold Hd.cut; split <;> omega
theorem ipErr_0 {h : Hd} {p : ByteArray} (e : ipErr h p = 0) : h.o.size ≤ 40 ∧ h.o.size % 4 = 0 ∧ h.o.size + p.size ≤ 2028 := by
  unfold ipErr at e
  by_cases h1 : 40 < h.o.size ∨ h.o.size % 4 ≠ 0
  · rw [if_pos h1] at e; omega
  rw [if_neg h1] at e
  by_cases h2 : 2028 < h.o.size + p.size
  · rw [if_pos h2] at e; omega
  omega
theorem Hd.bytes_is (h : Hd) (z m : Int) : h.bytes z m = byt (((64 + (20 + (h.o.size : Int)) / 4) * 256 + h.t) / 256) :: byt ((64 + (20 + (h.o.size : Int)) / 4) * 256 + h.t) :: byt (z / 256) :: byt z :: byt (h.i / 256) :: byt h.i :: byt (h.cut / 256) :: byt h.cut :: byt ((h.l * 256 + h.p) / 256) :: byt (h.l * 256 + h.p) :: byt (m / 256) :: byt m
    :: byt (h.s / 65536 / 256) :: byt (h.s / 65536) :: byt (h.s % 65536 / 256) :: byt (h.s % 65536) :: byt (h.d / 65536 / 256) :: byt (h.d / 65536) :: byt (h.d % 65536 / 256) :: byt (h.d % 65536) :: L h.o := by
  unfold Hd.bytes Hd.words
  simp only [putW, List.flatMap_cons, List.flatMap_nil, List.append_assoc, List.append_nil]
  rfl
theorem Hd.bytes_length (h : Hd) (z m : Int) : (h.bytes z m).length = 20 + h.o.size := by rw [h.bytes_is]; simp only [List.length_cons, L_length]; omega
theorem Hd.bytes_lay (h : Hd) (z m n : Int) : lay (h.bytes z m) 10 n = h.bytes z n := by
  rw [h.bytes_is, h.bytes_is]; rfl
theorem ip_holds (h : Hd) (z : Int) : holds [h.bytes z (sumL [h.bytes z 0])] = true := by
  have hh := lay_holds [] (l := h.bytes z 0) (k := 10) (n := sumL [h.bytes z 0]) (by rw [h.bytes_length]; omega) (by omega) (Or.inl (by rw [h.bytes_lay]; rfl))
  rw [h.bytes_lay] at hh
  exact hh

/-- what is put is parsed as it was, whatever stands behind it -/
theorem ip_back (h : Hd) (p b : ByteArray) (hk : h.Ok) (he : ipErr h p = 0) :
    (S (h.put p)).size = 20 + h.o.size + p.size ∧ holds [(L (S (h.put p))).take (20 + h.o.size)] = true ∧
    ipWhy (S (h.put p) ++ b) = 0 ∧ hdOf (S (h.put p) ++ b) = h ∧ (S (h.put p) ++ b).extract (ipOwn (L (S (h.put p) ++ b))).toNat (ipAll (L (S (h.put p) ++ b))).toNat = p := by
  obtain ⟨h1, h2, h3⟩ := ipErr_0 he
  obtain ⟨⟨t0, t1⟩, hi, ⟨l0, l1⟩, ⟨p0, p1⟩, hs, hd, ho⟩ := hk
  have hz : (h.put p).length = 20 + h.o.size + p.size := by
    unfold Hd.put; rw [List.length_append, h.bytes_length, L_length]
  have hsz : (S (h.put p)).size = 20 + h.o.size + p.size := by rw [S_size, hz]
  have hm := sumL_bd [h.bytes (h.all p) 0]
  have hcut := h.cut_bd
  have hall : h.all p = 20 + (h.o.size : Int) + p.size := rfl
  have htake : ((h.put p) ++ L b).take (20 + h.o.size) = h.bytes (h.all p) (h.sum p) := by
    unfold Hd.put
    rw [List.append_assoc, List.take_append_of_le_length (by rw [h.bytes_length]; omega), List.take_of_length_le (by rw [h.bytes_length]; omega)]
  have htake0 : (h.put p).take (20 + h.o.size) = h.bytes (h.all p) (h.sum p) := by
    unfold Hd.put
    rw [List.take_append_of_le_length (by rw [h.bytes_length]; omega), List.take_of_length_le (by rw [h.bytes_length]; omega)]
  have hL : L (S (h.put p) ++ b) = (h.put p) ++ L b := by rw [L_append, L_S]
  have hbsz : (S (h.put p) ++ b).size = 20 + h.o.size + p.size + b.size := by rw [ByteArray.size_append, hsz]
  have hl : (h.put p) ++ L b = byt (((64 + (20 + (h.o.size : Int)) / 4) * 256 + h.t) / 256) :: byt ((64 + (20 + (h.o.size : Int)) / 4) * 256 + h.t) :: byt (h.all p / 256) :: byt (h.all p) :: byt (h.i / 256) :: byt h.i :: byt (h.cut / 256) :: byt h.cut :: byt ((h.l * 256 + h.p) / 256) :: byt (h.l * 256 + h.p) :: byt (h.sum p / 256) :: byt (h.sum p)
    :: byt (h.s / 65536 / 256) :: byt (h.s / 65536) :: byt (h.s % 65536 / 256) :: byt (h.s % 65536) :: byt (h.d / 65536 / 256) :: byt (h.d / 65536) :: byt (h.d % 65536 / 256) :: byt (h.d % 65536) :: (L h.o ++ (L p ++ L b)) := by
    unfold Hd.put
    rw [h.bytes_is]; simp only [List.cons_append, List.append_assoc]
  have hlen : ((h.put p) ++ L b).length = 20 + h.o.size + p.size + b.size := by rw [List.length_append, hz, L_length]
  have h0 : at_ ((h.put p) ++ L b) 0 = 64 + (20 + (h.o.size : Int)) / 4 := by
    rw [hl]; show ((byt _).toNat : Int) = _; rw [byt_int _ (by omega)]; omega
  have e1 : at_ ((h.put p) ++ L b) 1 = h.t := by
    rw [hl]; show ((byt _).toNat : Int) = _; rw [byt_int _ (by omega)]; omega
  have e8 : at_ ((h.put p) ++ L b) 8 = h.l := by
    rw [hl]; show ((byt _).toNat : Int) = _; rw [byt_int _ (by omega)]; omega
  have e9 : at_ ((h.put p) ++ L b) 9 = h.p := by
    rw [hl]; show ((byt _).toNat : Int) = _; rw [byt_int _ (by omega)]; omega
  have hown : ipOwn ((h.put p) ++ L b) = 20 + h.o.size := by unfold ipOwn; rw [h0]; omega
  have g16 : ∀ k : Nat, k + 2 ≤ 20 → get16 ((h.put p) ++ L b) (k : Int) = be16 ((h.put p) ++ L b) k := fun k hk => get16_nat (by omega)
  have g32 : ∀ k : Nat, k + 4 ≤ 20 → get32 ((h.put p) ++ L b) (k : Int) = be32 ((h.put p) ++ L b) k := fun k hk => get32_nat (by omega)
  have e2 : get16 ((h.put p) ++ L b) ((2 : Nat) : Int) = h.all p := by rw [g16 2 (by omega), hl]; exact bb _ (by omega) (by omega)
  have e4 : get16 ((h.put p) ++ L b) ((4 : Nat) : Int) = h.i := by rw [g16 4 (by omega), hl]; exact bb _ hi.1 hi.2
  have e6 : get16 ((h.put p) ++ L b) ((6 : Nat) : Int) = h.cut := by rw [g16 6 (by omega), hl]; exact bb _ (by omega) (by omega)
  have b32 : ∀ n : Int, 0 ≤ n → n ≤ 4294967295 → (((byt (n / 65536 / 256)).toNat : Int) * 256 + ((byt (n / 65536)).toNat : Int)) * 65536 + (((byt (n % 65536 / 256)).toNat : Int) * 256 + ((byt (n % 65536)).toNat : Int)) = n := by
    intro n n0 n1
    rw [bb _ (by omega) (by omega), bb _ (by omega) (by omega)]; omega
  have e12 : get32 ((h.put p) ++ L b) ((12 : Nat) : Int) = h.s := by rw [g32 12 (by omega), hl]; exact b32 _ hs.1 hs.2
  have e16 : get32 ((h.put p) ++ L b) ((16 : Nat) : Int) = h.d := by rw [g32 16 (by omega), hl]; exact b32 _ hd.1 hd.2
  have hownall : ipAll ((h.put p) ++ L b) = h.all p := e2
  have hd20 : ((h.put p) ++ L b).drop 20 = L h.o ++ (L p ++ L b) := by rw [hl]; rfl
  have hH : holds [h.bytes (h.all p) (h.sum p)] = true := ip_holds h (h.all p)
  refine ⟨hsz, ?_, ?_, ?_, ?_⟩
  · rw [L_S, htake0]; exact hH
  · unfold ipWhy ipFits
    rw [hL, hbsz, hown, hownall, h0]
    rw [if_neg (by omega), if_neg (by omega), if_neg (by simp; omega)]
    rw [show ((20 : Int) + (h.o.size : Int)).toNat = 20 + h.o.size from by omega, htake, hH]
    rw [if_neg (by simp), if_neg]
    rw [show (6 : Int) = ((6 : Nat) : Int) from rfl, e6]
    omega
  · unfold hdOf
    rw [hL]
    have eo : (S (h.put p) ++ b).extract 20 (ipOwn ((h.put p) ++ L b)).toNat = h.o := by
      apply L_inj
      rw [L_extract, hL, hown, hd20, show ((20 : Int) + (h.o.size : Int)).toNat - 20 = (L h.o).length from by rw [L_length]; omega]
      exact List.take_left
    have ef : decide (get16 ((h.put p) ++ L b) ((6 : Nat) : Int) = 16384) = h.f := by
      rw [e6]; unfold Hd.cut
      cases h.f <;> rfl
    cases h with
    | mk t i f l p s d o =>
      simp only [Hd.mk.injEq]
      exact ⟨e1, e4, ef, e8, e9, e12, e16, eo⟩
  · apply L_inj
    rw [L_extract, hL, hown, hownall]
    rw [show ((20 : Int) + (h.o.size : Int)).toNat = 20 + h.o.size from by omega, ← List.drop_drop, hd20, List.drop_append_of_le_length (by rw [L_length]; omega), List.drop_of_length_le (by rw [L_length]; omega), List.nil_append]
    rw [show (h.all p).toNat - (20 + h.o.size) = (L p).length from by rw [L_length]; omega]
    exact List.take_left

theorem ipWhy_0 {s : ByteArray} (e : ipWhy s = 0) : 20 ≤ s.size ∧ at_ (L s) 0 / 16 = 4 ∧ ipFits s = true ∧ holds [(L s).take (ipOwn (L s)).toNat] = true ∧ (get16 (L s) 6 = 0 ∨ get16 (L s) 6 = 16384) := by
  unfold ipWhy at e
  by_cases h1 : s.size < 20
  · rw [if_pos h1] at e; omega
  rw [if_neg h1] at e
  by_cases h2 : at_ (L s) 0 / 16 ≠ 4
  · rw [if_pos h2] at e; omega
  rw [if_neg h2] at e
  by_cases h3 : ipFits s = false
  · rw [if_pos h3] at e; omega
  rw [if_neg h3] at e
  by_cases h4 : holds [(L s).take (ipOwn (L s)).toNat] = false
  · rw [if_pos h4] at e; omega
  rw [if_neg h4] at e
  by_cases h5 : get16 (L s) 6 ≠ 0 ∧ get16 (L s) 6 ≠ 16384
  · rw [if_pos h5] at e; omega
  exact ⟨by omega, by omega, by simpa using h3, by simpa using h4, by omega⟩

/-- a header that was parsed is the header of what was parsed -/
theorem ip_head (s : ByteArray) (hw : ipWhy s = 0) :
    20 ≤ ipOwn (L s) ∧ ipOwn (L s) ≤ 60 ∧ ipOwn (L s) ≤ ipAll (L s) ∧ ipAll (L s) ≤ s.size ∧ ipAll (L s) ≤ 2048 ∧ (hdOf s).o.size = (ipOwn (L s)).toNat - 20 ∧ ipOwn (L s) % 4 = 0 ∧
    (L s).take (ipOwn (L s)).toNat = (hdOf s).bytes (ipAll (L s)) (be16 (L s) 10) ∧ holds [(hdOf s).bytes (ipAll (L s)) (be16 (L s) 10)] = true := by
  obtain ⟨h20, h2, h3, h4, h5⟩ := ipWhy_0 hw
  have f0 : 20 ≤ ipOwn (L s) ∧ ipOwn (L s) ≤ ipAll (L s) ∧ ipAll (L s) ≤ s.size ∧ ipAll (L s) ≤ 2048 := by unfold ipFits at h3; simpa [and_assoc] using h3
  have hx : ipOwn (L s) = at_ (L s) 0 % 16 * 4 := rfl
  have hb := at_bd (L s) 0
  have hb1 := at_bd (L s) 1
  have ho : (hdOf s).o.size = (ipOwn (L s)).toNat - 20 := by
    show (s.extract 20 _).size = _
    rw [ByteArray.size_extract]; omega
  have key : (L s).take (ipOwn (L s)).toNat = (hdOf s).bytes (ipAll (L s)) (be16 (L s) 10) := by
    have hoff : (64 + (20 + ((hdOf s).o.size : Int)) / 4) * 256 + (hdOf s).t = at_ (L s) 0 * 256 + at_ (L s) 1 := by
      show _ + at_ (L s) 1 = _
      rw [ho]; omega
    have hcut : (hdOf s).cut = get16 (L s) 6 := by
      unfold Hd.cut
      show (if decide (get16 (L s) 6 = 16384) = true then (16384 : Int) else 0) = _
      rcases h5 with h5 | h5 <;> rw [h5] <;> rfl
    have hyy : (hdOf s).l * 256 + (hdOf s).p = at_ (L s) 8 * 256 + at_ (L s) 9 := rfl
    have e2 : ipAll (L s) = be16 (L s) 2 := by show get16 (L s) ((2 : Nat) : Int) = _; exact get16_nat (by rw [L_length]; omega)
    have e4 : (hdOf s).i = be16 (L s) 4 := by show get16 (L s) ((4 : Nat) : Int) = _; exact get16_nat (by rw [L_length]; omega)
    have e6 : get16 (L s) 6 = be16 (L s) 6 := by show get16 (L s) ((6 : Nat) : Int) = _; exact get16_nat (by rw [L_length]; omega)
    have e12 : (hdOf s).s = be32 (L s) 12 := by show get32 (L s) ((12 : Nat) : Int) = _; exact get32_nat (by rw [L_length]; omega)
    have e16 : (hdOf s).d = be32 (L s) 16 := by show get32 (L s) ((16 : Nat) : Int) = _; exact get32_nat (by rw [L_length]; omega)
    have hopt : L (hdOf s).o = ((L s).drop 20).take ((ipOwn (L s)).toNat - 20) := by
      show L (s.extract 20 _) = _
      rw [L_extract]
    have hsplit : (L s).take (ipOwn (L s)).toNat = (L s).take 20 ++ ((L s).drop 20).take ((ipOwn (L s)).toNat - 20) := by
      have := List.take_append_drop 20 ((L s).take (ipOwn (L s)).toNat)
      rw [List.take_take, List.drop_take, show min 20 (ipOwn (L s)).toNat = 20 from by omega] at this
      exact this.symm
    rw [hsplit, ← hopt]
    unfold Hd.bytes Hd.words
    rw [hoff, hcut, hyy, e2, e4, e6, e12, e16]
    obtain ⟨b0, b1, b2, b3, b4, b5, b6, b7, b8, b9, b10, b11, b12, b13, b14, b15, b16, b17, b18, b19, r, hr⟩ := twenty (l := L s) (by rw [L_length]; exact h20)
    generalize L (hdOf s).o = oo at *
    rw [hr]
    simp only [be16, be32, putW, List.flatMap_cons, List.flatMap_nil, at_cons0, at_cons1, List.append_nil]
    rw [put16_be, put16_be, put16_be, put16_be, put16_be, put16_be, put32_be, put32_be]
    rfl
  refine ⟨f0.1, by omega, f0.2.1, f0.2.2.1, f0.2.2.2, ho, by omega, key, ?_⟩
  rw [← key]; exact h4

theorem hdOf_ok {s : ByteArray} (hs : s.size ≤ 140737488351232) : (hdOf s).Ok := by
  refine ⟨at_bd _ _, get16_bd _ _, at_bd _ _, at_bd _ _, get32_bd _ _, get32_bd _ _, ?_⟩
  show (s.extract 20 _).size ≤ _
  rw [ByteArray.size_extract]; omega
theorem hdNone_ok : hdNone.Ok := by unfold hdNone Hd.Ok; decide
theorem hdRes_ok {s : ByteArray} (hs : s.size ≤ 140737488351232) : (hdRes s).Ok := by
  unfold hdRes; split
  · exact hdOf_ok hs
  · exact hdNone_ok

/-- a header's own sum, and another one by which it holds -/
theorem ip_sum (h : Hd) (hk : h.Ok) (h40 : h.o.size ≤ 40) (z n : Int) (hz : 0 ≤ z ∧ z ≤ 65535) (hn : 0 ≤ n ∧ n ≤ 65535) (hh : holds [h.bytes z n] = true) :
    (n = sumL [h.bytes z 0] ∨ n = 65535 ∧ sumL [h.bytes z 0] = 0) ∧ sumL [h.bytes z 0] < 65535 := by
  obtain ⟨⟨t0, t1⟩, hi, ⟨l0, l1⟩, ⟨p0, p1⟩, hs, hd, ho⟩ := hk
  have h1 := (holds_iff _).1 hh
  have hr := sumL_rep [h.bytes z 0]
  have hl := lay_tot (l := h.bytes z 0) (k := 10) (n := n) (by rw [h.bytes_length]; omega) (by omega) hn
  rw [h.bytes_lay, h.bytes_lay] at hl
  simp only [List.flatMap_cons, List.flatMap_nil, List.append_nil] at h1 hr
  rw [hl] at h1
  have hcut := h.cut_bd
  have hwb : ∀ x ∈ h.words z 0, 0 ≤ x ∧ x ≤ 65535 := by
    intro x hx
    unfold Hd.words at hx
    simp only [List.mem_cons, List.not_mem_nil, or_false] at hx
    rcases hx with rfl | rfl | rfl | rfl | rfl | rfl <;> omega
  have hpos : 0 < tot (words (h.bytes z 0)) := by
    unfold Hd.bytes
    rw [List.append_assoc, List.append_assoc, words_putW hwb, tot_append]
    have hq := tot_nonneg (words_bd (put32 h.s ++ (put32 h.d ++ L h.o)))
    unfold Hd.words
    simp only [tot_cons, tot_nil]
    omega
  have hm := rep_mod (t := tot (words (h.bytes z 0))) (by omega)
  have hb := rep_bd (t := tot (words (h.bytes z 0))) (by omega)
  have hne : rep (tot (words (h.bytes z 0))) ≠ 0 := by unfold rep; rw [if_neg (by omega)]; omega
  generalize tot (words (h.bytes z 0)) = T at *
  omega

/-- what is parsed is put as it was, but for what stood behind, and a sum of 65535 -/
theorem ip_same (s : ByteArray) (hs : s.size ≤ 140737488351232) (hw : ipWhy s = 0) :
    ipErr (hdOf s) (ipRest s) = 0 ∧ (20 ≤ (ipText (hdOf s) (ipRest s)).size ∧ (ipText (hdOf s) (ipRest s)).size ≤ s.size) ∧
    (L (s.extract 10 12) = [255, 255] → L ((ipText (hdOf s) (ipRest s)).extract 10 12) = [0, 0] ∧ (ipText (hdOf s) (ipRest s)).extract 0 10 = s.extract 0 10 ∧ (ipText (hdOf s) (ipRest s)).extract 12 (ipText (hdOf s) (ipRest s)).size = s.extract 12 (ipText (hdOf s) (ipRest s)).size) ∧
    (L (s.extract 10 12) ≠ [255, 255] → ipText (hdOf s) (ipRest s) = s.extract 0 (ipText (hdOf s) (ipRest s)).size) := by
  obtain ⟨a1, a2, a3, a4, a5, ho, h4, key, hh⟩ := ip_head s hw
  have hrest : ipRest s = s.extract (ipOwn (L s)).toNat (ipAll (L s)).toNat := by unfold ipRest; rw [if_pos hw]
  have hp : (ipRest s).size = (ipAll (L s)).toNat - (ipOwn (L s)).toNat := by rw [hrest, ByteArray.size_extract]; omega
  have he : ipErr (hdOf s) (ipRest s) = 0 := by
    unfold ipErr; rw [ho, hp, if_neg (by omega), if_neg (by omega)]
  have hall : (hdOf s).all (ipRest s) = ipAll (L s) := by unfold Hd.all; rw [ho, hp]; omega
  have ⟨hsum, hlt⟩ := ip_sum (hdOf s) (hdOf_ok hs) (by rw [ho]; omega) (ipAll (L s)) (be16 (L s) 10) ⟨by omega, by omega⟩ (be16_bd _ _) hh
  obtain ⟨t, ht⟩ : ∃ t, t = ipText (hdOf s) (ipRest s) := ⟨_, rfl⟩
  have hLt : L t = (hdOf s).bytes (ipAll (L s)) (sumL [(hdOf s).bytes (ipAll (L s)) 0]) ++ L (ipRest s) := by
    rw [ht]; unfold ipText; rw [if_pos he, L_S]; unfold Hd.put Hd.sum; rw [hall]
  have htz : t.size = (ipAll (L s)).toNat := by
    rw [← L_length, hLt, List.length_append, Hd.bytes_length, L_length, ho, hp]; omega
  have hLs : (L s).take (ipAll (L s)).toNat = (hdOf s).bytes (ipAll (L s)) (be16 (L s) 10) ++ L (ipRest s) := by
    rw [← key, hrest, L_extract]
    have := List.take_append_drop (ipOwn (L s)).toNat ((L s).take (ipAll (L s)).toNat)
    rw [List.take_take, List.drop_take, show min (ipOwn (L s)).toNat (ipAll (L s)).toNat = (ipOwn (L s)).toNat from by omega] at this
    exact this.symm
  rw [← ht]
  have hmid : L (s.extract 10 12) = put16 (be16 (L s) 10) := by
    have e2 : min 2 ((ipAll (L s)).toNat - 10) = 2 := Nat.min_eq_left (by omega)
    have e3 : (((L s).take (ipAll (L s)).toNat).drop 10).take 2 = ((L s).drop 10).take 2 := by rw [List.drop_take, List.take_take, e2]
    rw [L_extract, show (12 : Nat) - 10 = 2 from rfl, ← e3, hLs, Hd.bytes_is]
    rfl
  have hn := be16_bd (L s) 10
  generalize be16 (L s) 10 = n at *
  generalize sumL [(hdOf s).bytes (ipAll (L s)) 0] = m at *
  refine ⟨he, ⟨by rw [htz]; omega, by rw [htz]; omega⟩, ?_, ?_⟩
  · intro hff
    rw [hmid] at hff
    have hff' : byt (n / 256) = 255 ∧ byt n = 255 := by
      unfold put16 at hff
      simp only [List.cons.injEq, and_true] at hff
      exact hff
    have hn6 : n = 65535 := by
      have q1 := congrArg UInt8.toNat hff'.1
      have q2 := congrArg UInt8.toNat hff'.2
      rw [byt_toNat] at q1 q2
      have : (255 : UInt8).toNat = 255 := rfl
      omega
    have hm0 : m = 0 := by omega
    rw [hm0] at hLt; rw [hn6] at hLs
    refine ⟨?_, ?_, ?_⟩
    · rw [L_extract, hLt, Hd.bytes_is]; rfl
    · apply L_inj
      rw [L_to, L_to, show (L s).take 10 = ((L s).take (ipAll (L s)).toNat).take 10 from by rw [List.take_take, Nat.min_eq_left (show 10 ≤ (ipAll (L s)).toNat by omega)], hLs, hLt, Hd.bytes_is, Hd.bytes_is]
      rfl
    · apply L_inj
      rw [L_from, L_extract, htz, ← List.drop_take, hLs, hLt, Hd.bytes_is, Hd.bytes_is]
      rfl
  · intro hff
    have hn6 : n ≠ 65535 := by
      intro hc; apply hff; rw [hmid, hc]; rfl
    have hnm : n = m := by omega
    apply L_inj
    rw [L_to, htz, hLs, hLt, hnm]

/-- a header of which one bit is turned is none, but for those that tell how many bytes it has -/
theorem ip_spoilt (h : Hd) (p : ByteArray) (k : Nat) (hk : h.Ok) (he : ipErr h p = 0) (h4 : 4 ≤ k) (h8 : k < 8 * (20 + h.o.size)) :
    ipWhy (S (flip (h.put p) k)) ≠ 0 := by
  obtain ⟨h1, h2, h3⟩ := ipErr_0 he
  obtain ⟨hsz, hH, hW, hD, hP⟩ := ip_back h p { data := #[] } hk he
  rw [L_S] at hH
  have hown : ipOwn (h.put p) = 20 + h.o.size ∧ at_ (h.put p) 0 = 64 + (20 + (h.o.size : Int)) / 4 := by
    have h0 : at_ (h.put p) 0 = 64 + (20 + (h.o.size : Int)) / 4 := by
      obtain ⟨t0, hi, l0, p0, hs, hd, ho⟩ := hk
      unfold Hd.put
      rw [h.bytes_is]; show ((byt _).toNat : Int) = _; rw [byt_int _ (by omega)]; omega
    refine ⟨?_, h0⟩
    unfold ipOwn; rw [h0]; omega
  intro hw
  obtain ⟨g20, g2, g3, g4, g5⟩ := ipWhy_0 hw
  rw [L_S] at g2 g4
  have hlen : 20 ≤ (h.put p).length := by rw [S_size] at hsz; omega
  by_cases hb : k < 8
  · have hk0 : k / 8 = 0 := by omega
    have hk8 : k % 8 = k := by omega
    have e0 : at_ (flip (h.put p) k) 0 = fl (64 + (20 + (h.o.size : Int)) / 4) k := by
      unfold flip
      rw [hk0, hk8, hown.2]
      obtain ⟨b, r, hr⟩ := List.exists_cons_of_length_pos (show 0 < (h.put p).length by omega)
      rw [hr]
      show ((byt _).toNat : Int) = _
      have hfb := fl_bd (a := 64 + (20 + (h.o.size : Int)) / 4) (j := k) (by omega) (by omega)
      rw [byt_int _ hfb.1]; omega
    rw [e0] at g2
    unfold fl at g2
    have hkk : k = 4 ∨ k = 5 ∨ k = 6 ∨ k = 7 := by omega
    rcases hkk with rfl | rfl | rfl | rfl <;> simp only [Int.reducePow] at g2 <;> split at g2 <;> omega
  · have hown' : ipOwn (flip (h.put p) k) = ipOwn (h.put p) := by
      unfold ipOwn
      have : at_ (flip (h.put p) k) 0 = at_ (h.put p) 0 := by
        unfold flip
        obtain ⟨b, r, hr⟩ := List.exists_cons_of_length_pos (show 0 < (h.put p).length by omega)
        obtain ⟨j, hj⟩ : ∃ j, k / 8 = j + 1 := ⟨k / 8 - 1, by omega⟩
        rw [hj, hr]
        rfl
      rw [this]
    rw [hown', hown.1, show ((20 : Int) + (h.o.size : Int)).toNat = 20 + h.o.size from by omega] at g4
    have hlt : k / 8 < 20 + h.o.size := by omega
    have hft : (flip (h.put p) k).take (20 + h.o.size) = flip ((h.put p).take (20 + h.o.size)) k := by
      unfold flip
      rw [List.take_set, at_take hlt]
    rw [hft] at g4
    have := holds_flip [] ((h.put p).take (20 + h.o.size)) k (by rw [List.length_take, S_size] at *; omega) hH
    rw [List.nil_append] at this
    rw [this] at g4
    cases g4
end Go.Proofs.YtjeaknipmdfkdaaGreatDoor
end

section
/- The document's answer for icmp (porterref07) over this program. -/
set_option linter.unusedVariables false
namespace Go.Proofs.YtjeaknipmdfkdaaGreatDoor
open Go.RowKit
attribute [local go_sem] Oper.semAt_some

/-- a message's cells -/
structure Msg where
  t : Int
  c : Int
  n : Int
  r : ByteArray
  d : ByteArray
def Msg.Ok (m : Msg) : Prop := (0 ≤ m.t ∧ m.t ≤ 255) ∧ (0 ≤ m.c ∧ m.c ≤ 255) ∧ (0 ≤ m.n ∧ m.n ≤ 65535) ∧ m.r.size ≤ 140737488351232 ∧ m.d.size ≤ 140737488351232
/-- what a text is as a message -/
def msgOf (s : ByteArray) : Msg := ⟨at_ (L s) 0, at_ (L s) 1, be16 (L s) 2, s.extract 4 8, s.extract 8 s.size⟩
theorem msgOf_ok {s : ByteArray} (hs : s.size ≤ 140737488351232) : (msgOf s).Ok := by
  refine ⟨at_bd _ _, at_bd _ _, be16_bd _ _, ?_, ?_⟩
  · show (s.extract 4 8).size ≤ _; rw [ByteArray.size_extract]; omega
  · show (s.extract 8 s.size).size ≤ _; rw [ByteArray.size_extract]; omega
/-- a message's bytes -/
def msgPut (m : Msg) : List UInt8 := [byt m.t, byt m.c] ++ put16 m.n ++ L m.r ++ L m.d

theorem r7_Parse_no (s : ByteArray) (w : World) (h : s.size < 8) :
    Calls Tryz.prog 59 #[.string s] w (Ret (.tuple #[.agg #[.int .u8 0, .int .u8 0, .int .u16 0, .string { data := #[] }, .string { data := #[] }], .bool false]) w) := by
  have q2 : (s.size : Int) < 8 := by omega
  go_enter Tryz.func59, Tryz.ntmps59
  go_wp2_with fail
  (try simp only [Exit.inBlock, Exit.then]); refine bodyPost_ret (by simp [results, Tryz.results59, go_sem]; try rfl) rfl ?_
  exact ⟨rfl, fresh_below _ _⟩

set_option maxRecDepth 100000 in
set_option maxHeartbeats 4000000 in
theorem r7_Parse_yes (s : ByteArray) (w : World) (hs : s.size ≤ 140737488351232) (h : 8 ≤ s.size) :
    Calls Tryz.prog 59 #[.string s] w (Ret (.tuple #[.agg #[.int .u8 (msgOf s).t, .int .u8 (msgOf s).c, .int .u16 (msgOf s).n, .string (msgOf s).r, .string (msgOf s).d], .bool true]) w) := by
  have c1 := fun w => r_Get16 s 2 w (reach_max hs) (by omega)
  have hh : has s.size 2 2 = true := has_true (by omega) (by omega)
  have hn : get16 (L s) 2 = (msgOf s).n := by rw [show (2 : Int) = ((2 : Nat) : Int) from rfl, get16_nat (by rw [L_length]; omega)]; rfl
  rw [hh, hn] at c1
  have e0 : (((s[0]'(by omega)).toNat : Nat) : Int) = (msgOf s).t := by rw [getElem_L s 0 (by omega)]; rfl
  have e1 : (((s[1]'(by omega)).toNat : Nat) : Int) = (msgOf s).c := by rw [getElem_L s 1 (by omega)]; rfl
  have e2 : s.extract 4 8 = (msgOf s).r := rfl
  have e3 : s.extract 8 s.size = (msgOf s).d := rfl
  obtain ⟨m, hm⟩ : ∃ m, m = msgOf s := ⟨_, rfl⟩
  rw [← hm] at c1 e0 e1 e2 e3 ⊢
  have q2 : ¬ (s.size : Int) < 8 := by omega
  have i1 : (4 : Int) ≤ (s.size : Int) := by omega
  have i2 : (8 : Int) ≤ (s.size : Int) := by omega
  have i3 : (1 : Int) < (s.size : Int) := by omega
  have i4 : (0 : Int) < (s.size : Int) := by omega
  have i5 : 0 < s.size := by omega
  have i6 : 1 < s.size := by omega
  have i7 : 8 ≤ s.size := h
  have i8 : 4 ≤ s.size := by omega
  have C1 := hide c1; have E0 := hide e0; have E1 := hide e1; have E2 := hide e2; have E3 := hide e3
  clear c1 e0 e1 e2 e3 hh hn hm
  go_enter Tryz.func59, Tryz.ntmps59
  have d0 := Cells.new w #[.int .u8 0, .int .u8 0, .int .u16 0, .string { data := #[] }, .string { data := #[] }] 80
  go_wp2_with fail
  (with_reducible refine (C1.out _).mono ?_)
  rintro e w1 ⟨rfl, b1⟩
  replace d0 := Cells.up d0 (by (repeat' (first | with_reducible exact Below.refl _ _ | with_reducible refine bstep ?_ (fresh_below _ _) | with_reducible refine Below.drew ?_))) b1
  replace b1 : Below w.heap.size w w1 := by (refine bstep ?_ b1); (repeat' (first | with_reducible exact Below.refl _ _ | with_reducible refine Below.setCell ?_ (by first | exact Nat.le_refl _ | (dsimp only; omega)) _ | with_reducible refine bstep ?_ (fresh_below _ _) | with_reducible refine Below.drew ?_))
  have z1 : w.heap.size ≤ w1.heap.size := b1.size
  go_wp2_with fail
  have d1 : Cells w1.drew w.heap.size #[.int .u8 0, .int .u8 0, .int .u16 0, .string { data := #[] }, .string { data := #[] }] 80 := d0
  have b2 := b1.drew
  go_still_tail 10, (by kernel_rfl)
  change wpList _ _ _ _ _ w1.drew
  generalize w1.drew = w2 at *
  obtain ⟨xd1_0, xd1_1, xd1_2, xd1_3, xd1_4⟩ := d1.x5
  obtain ⟨yd1_0, yd1_1, yd1_2, yd1_3, yd1_4⟩ := d1.y5
  go_wp2
  (try simp only [Exit.inBlock, Exit.then]); refine bodyPost_ret (by simp [results, Tryz.results59, go_sem, *]; try rfl) rfl ?_
  exact ⟨by rw [← E0.out, ← E1.out, ← E2.out, ← E3.out], (by (repeat' (first | exact b2 | with_reducible exact Below.refl _ _ | with_reducible refine Below.setCell ?_ (by first | exact Nat.le_refl _ | (dsimp only; omega)) _ | with_reducible refine bstep ?_ bq0 | with_reducible refine bstep ?_ bq1 | with_reducible refine bstep ?_ bq2 | with_reducible refine bstep ?_ bq3 | with_reducible refine bstep ?_ bq4 | with_reducible refine bstep ?_ bq5 | with_reducible refine bstep ?_ (fresh_below _ _) | with_reducible refine Below.drew ?_)))⟩

theorem r7_Put_no (m : Msg) (w : World) (h : m.r.size ≠ 4) :
    Calls Tryz.prog 51 #[.agg #[.int .u8 m.t, .int .u8 m.c, .int .u16 m.n, .string m.r, .string m.d]] w (Ret (.tuple #[.string { data := #[] }, .int .i64 2]) w) := by
  have q1 : ((m.r.size : Int) == 4) = false := by simp; omega
  have q2 : ((m.r.size : Int) != 4) = true := by simp; omega
  go_enter Tryz.func51, Tryz.ntmps51
  go_wp2_with fail
  go_ret2
  exact ⟨rfl, (by (repeat' (first | with_reducible exact Below.refl _ _ | with_reducible refine Below.setCell ?_ (by first | exact Nat.le_refl _ | (dsimp only; omega)) _ | with_reducible refine bstep ?_ (fresh_below _ _) | with_reducible refine Below.drew ?_)))⟩

/-- a message with its sum -/
def icmpSum (l : List UInt8) : Int := sumL [lay l 2 0]
def icmpSeal (l : List UInt8) : List UInt8 := if l.length < 8 then l else lay l 2 (icmpSum l)
theorem icmpSum_bd (l : List UInt8) : 0 ≤ icmpSum l ∧ icmpSum l ≤ 65535 := sumL_bd _

end Go.Proofs.YtjeaknipmdfkdaaGreatDoor
end

section
/- icmp over this program: what does not look at the kinds of messages. -/
set_option linter.unusedVariables false
namespace Go.Proofs.YtjeaknipmdfkdaaGreatDoor
open Go.RowKit
attribute [local go_sem] Oper.semAt_some

theorem i_Parse_no (s : ByteArray) (w : World) (h : s.size < 8) :
    Calls Tryz.prog 44 #[.string s] w (Ret (.tuple #[.agg #[.int .u8 0, .int .u8 0, .int .u16 0, .string { data := #[] }, .string { data := #[] }], .bool false]) w) := by
  have q2 : (s.size : Int) < 8 := by omega
  go_enter Tryz.func44, Tryz.ntmps44
  go_wp2_with fail
  (try simp only [Exit.inBlock, Exit.then]); refine bodyPost_ret (by simp [results, Tryz.results44, go_sem]; try rfl) rfl ?_
  exact ⟨rfl, fresh_below _ _⟩

theorem i_Check (s : ByteArray) (w : World) (hs : s.size ≤ 140737488351232) :
    Calls Tryz.prog 24 #[.string s] w (Ret (.bool (decide (8 ≤ s.size) && holds [L s])) w) := by
  by_cases h8 : s.size < 8
  · have hv : (decide (8 ≤ s.size) && holds [L s]) = false := by simp; omega
    rw [hv]
    have q1 : decide ((8 : Int) ≤ (s.size : Int)) = false := by simp; omega
    have q2 : ¬ (8 : Int) ≤ (s.size : Int) := by omega
    clear hv
    go_enter Tryz.func24, Tryz.ntmps24
    go_wp2_with fail
    go_ret
    exact ⟨rfl, (by (repeat' (first | with_reducible exact Below.refl _ _ | with_reducible refine Below.setCell ?_ (by first | exact Nat.le_refl _ | (dsimp only; omega)) _ | with_reducible refine bstep ?_ (fresh_below _ _) | with_reducible refine Below.drew ?_)))⟩
  · have hv : (decide (8 ≤ s.size) && holds [L s]) = holds [L s] := by simp; omega
    rw [hv]
    have c1 := fun (w : World) => Holds (some ⟨w.heap.size, 0, none⟩) 1 1 [s] _ (Row.freshN w #[.string s] 9 _ _ rfl rfl) (by simpa using hs) (by omega)
    simp only [List.map_cons, List.map_nil] at c1
    obtain ⟨v, hv2⟩ : ∃ v, v = holds [L s] := ⟨_, rfl⟩
    rw [← hv2] at c1 ⊢
    have q1 : decide ((8 : Int) ≤ (s.size : Int)) = true := by simp; omega
    have q2 : (8 : Int) ≤ (s.size : Int) := by omega
    have C1 := hide c1
    clear c1 hv hv2
    go_enter Tryz.func24, Tryz.ntmps24
    go_wp2_with fail
    (with_reducible refine (C1.out _).mono ?_)
    rintro e w1 ⟨rfl, b1⟩
    replace b1 : Below w.heap.size w w1 := by (refine bstep ?_ b1); (repeat' (first | with_reducible exact Below.refl _ _ | with_reducible refine Below.setCell ?_ (by first | exact Nat.le_refl _ | (dsimp only; omega)) _ | with_reducible refine bstep ?_ (fresh_below _ _) | with_reducible refine Below.drew ?_))
    have z1 : w.heap.size ≤ w1.heap.size := b1.size
    go_wp2_with fail
    go_ret
    exact ⟨rfl, (by (repeat' (first | with_reducible exact b1 | with_reducible exact Below.refl _ _ | with_reducible refine Below.setCell ?_ (by first | exact Nat.le_refl _ | (dsimp only; omega)) _ | with_reducible refine bstep ?_ (fresh_below _ _) | with_reducible refine Below.drew ?_)))⟩

theorem i_ID (m : Msg) (w : World) (ho : m.Ok) :
    Calls Tryz.prog 124 #[.agg #[.int .u8 m.t, .int .u8 m.c, .int .u16 m.n, .string m.r, .string m.d]] w (Ret (.int .u16 (get16 (L m.r) 0)) w) := by
  have c := fun w => Get16 m.r 0 w (reach_max ho.2.2.2.1) (by omega)
  obtain ⟨x, hx⟩ : ∃ x, x = get16 (L m.r) 0 := ⟨_, rfl⟩
  obtain ⟨h, hh⟩ : ∃ x, x = has m.r.size 0 2 := ⟨_, rfl⟩
  rw [← hx, ← hh] at c
  rw [← hx]
  have C := hide c
  clear c hx hh
  go_enter Tryz.func124, Tryz.ntmps124
  go_wp2_with fail
  (with_reducible refine (C.out _).mono ?_)
  rintro e w1 ⟨rfl, b1⟩
  replace b1 : Below w.heap.size w w1 := by (refine bstep ?_ b1); (repeat' (first | with_reducible exact Below.refl _ _ | with_reducible refine Below.setCell ?_ (by first | exact Nat.le_refl _ | (dsimp only; omega)) _ | with_reducible refine bstep ?_ (fresh_below _ _) | with_reducible refine Below.drew ?_))
  have z1 : w.heap.size ≤ w1.heap.size := b1.size
  go_wp2_with fail
  go_ret
  exact ⟨rfl, (by (repeat' (first | with_reducible exact b1 | with_reducible exact Below.refl _ _ | with_reducible refine Below.setCell ?_ (by first | exact Nat.le_refl _ | (dsimp only; omega)) _ | with_reducible refine bstep ?_ (fresh_below _ _) | with_reducible refine Below.drew ?_)))⟩
theorem r7_ID (m : Msg) (w : World) (ho : m.Ok) :
    Calls Tryz.prog 109 #[.agg #[.int .u8 m.t, .int .u8 m.c, .int .u16 m.n, .string m.r, .string m.d]] w (Ret (.int .u16 (get16 (L m.r) 0)) w) := by
  have c := fun w => r_Get16 m.r 0 w (reach_max ho.2.2.2.1) (by omega)
  obtain ⟨x, hx⟩ : ∃ x, x = get16 (L m.r) 0 := ⟨_, rfl⟩
  obtain ⟨h, hh⟩ : ∃ x, x = has m.r.size 0 2 := ⟨_, rfl⟩
  rw [← hx, ← hh] at c
  rw [← hx]
  have C := hide c
  clear c hx hh
  go_enter Tryz.func109, Tryz.ntmps109
  go_wp2_with fail
  (with_reducible refine (C.out _).mono ?_)
  rintro e w1 ⟨rfl, b1⟩
  replace b1 : Below w.heap.size w w1 := by (refine bstep ?_ b1); (repeat' (first | with_reducible exact Below.refl _ _ | with_reducible refine Below.setCell ?_ (by first | exact Nat.le_refl _ | (dsimp only; omega)) _ | with_reducible refine bstep ?_ (fresh_below _ _) | with_reducible refine Below.drew ?_))
  have z1 : w.heap.size ≤ w1.heap.size := b1.size
  go_wp2_with fail
  go_ret
  exact ⟨rfl, (by (repeat' (first | with_reducible exact b1 | with_reducible exact Below.refl _ _ | with_reducible refine Below.setCell ?_ (by first | exact Nat.le_refl _ | (dsimp only; omega)) _ | with_reducible refine bstep ?_ (fresh_below _ _) | with_reducible refine Below.drew ?_)))⟩
end Go.Proofs.YtjeaknipmdfkdaaGreatDoor
end
