/- Several texts of this claim, one behind the other. -/
import Derived.Test.YtilfcikhipadpaaGreatDoorK28a
import Derived.Test.YtilfcikhipadpaaGreatDoorK30a

section
/- rewrite: what a packet carries, changed, and Apply, over this program. -/
set_option linter.unusedVariables false
set_option linter.unusedSimpArgs false
namespace Go.Proofs.YtilfcikhipadpaaGreatDoor
open Go.RowKit
attribute [local go_sem] Oper.semAt_some

/-- what a packet carries, changed -/
def loadNew (x : Seen) (l ips : List UInt8) (a b c d : Int) : List UInt8 :=
  if x.t.p = 6 then flowNew l ips a b c d 16 else if x.t.p = 17 then flowNew l ips a b c d 6 else if x.k = 3 then l else if x.q = true then queryOf l b else queryOf l d

end Go.Proofs.YtilfcikhipadpaaGreatDoor
end

section
/- rewrite.Apply over this program. -/
set_option linter.unusedVariables false
set_option linter.unusedSimpArgs false
namespace Go.Proofs.YtilfcikhipadpaaGreatDoor
open Go.RowKit
attribute [local go_sem] Oper.semAt_some

/-- a packet, changed -/
def rwNew (s : ByteArray) (a b c d : Int) : List UInt8 := headNew ((L s).take (ipOwn (L s)).toNat) a c ++ loadNew (seenOf s) (L (ipRest s)) (((L s).drop 12).take 8) a b c d
end Go.Proofs.YtilfcikhipadpaaGreatDoor
end

section
/- Errors, and what they are about (embeds): what is told of them. Plain. -/
set_option linter.unusedVariables false
set_option linter.unusedSimpArgs false
namespace Go.Proofs.YtilfcikhipadpaaGreatDoor
open Go.RowKit

/-- the bytes that an error's message has of the packet -/
def emData (s : ByteArray) : ByteArray := (msgOf (ipRest s)).d
def emsWhy (s : ByteArray) : Int := if seenWhy s ≠ 0 then seenWhy s else if (seenOf s).k ≠ 3 then 15 else emWhy (L (emData s))
end Go.Proofs.YtilfcikhipadpaaGreatDoor
end

section
/- Packets, changed: plain. No walk. -/
set_option linter.unusedVariables false
namespace Go.Proofs.YtilfcikhipadpaaGreatDoor
open Go.RowKit

theorem updates_mod {n : Int} {a b : List UInt8} (hn : 0 ≤ n ∧ n ≤ 65535) (hz : a.length = b.length) (h2 : a.length % 2 = 0) :
    (updates n a b - (n + tot (words a) - tot (words b))) % 65535 = 0 := by
  have hl : (words a).length = (words b).length := by
    have := words_length h2
    have := words_length (l := b) (by omega)
    omega
  unfold updates
  rw [if_neg (by omega)]
  have h1 := updF_mod ((words a).zip (words b)) n hn zip_bd
  rwa [zip_fst hl, zip_snd hl] at h1

/-! ### lay -/
theorem at_lay {l : List UInt8} {k i : Nat} {n : Int} (h : k + 2 ≤ l.length) (hi : i < k ∨ k + 2 ≤ i) : at_ (lay l k n) i = at_ l i := by
  rcases hi with hi | hi
  · rw [← at_take (n := k) hi, lay_take h, at_take hi]
  · have e1 : at_ ((lay l k n).drop (k + 2)) (i - (k + 2)) = at_ (l.drop (k + 2)) (i - (k + 2)) := by rw [lay_drop h]
    rw [at_drop, at_drop] at e1
    rwa [show k + 2 + (i - (k + 2)) = i from by omega] at e1
theorem lay_self {l : List UInt8} {k : Nat} (h : k + 2 ≤ l.length) : lay l k (be16 l k) = l := by
  have e1 : be16 l k = ((l[k].toNat : Int)) * 256 + (l[k + 1].toNat : Int) := by
    simp [be16, at_, List.getD_eq_getElem?_getD, List.getElem?_eq_getElem (show k < l.length by omega), List.getElem?_eq_getElem (show k + 1 < l.length by omega)]
  unfold lay
  rw [e1, put16_be, List.append_assoc]
  conv => rhs; rw [← List.take_append_drop k l, List.drop_eq_getElem_cons (show k < l.length by omega), List.drop_eq_getElem_cons (show k + 1 < l.length by omega)]
  rfl
theorem lay_zero {l : List UInt8} {k : Nat} (h : k + 2 ≤ l.length) : lay l k 0 = (l.set k 0).set (k + 1) 0 := by
  have e : l = l.take k ++ ([l[k], l[k + 1]] ++ l.drop (k + 2)) := by
    conv => lhs; rw [← List.take_append_drop k l, List.drop_eq_getElem_cons (show k < l.length by omega), List.drop_eq_getElem_cons (show k + 1 < l.length by omega)]
    rfl
  have z : (l.take k).length = k := by simp; omega
  unfold lay
  generalize l.take k = u at *
  generalize l.drop (k + 2) = r at *
  generalize l[k] = x at *
  generalize l[k + 1] = y at *
  subst z
  rw [e]
  simp [put16, byt]
/-! ### whole packets: a header, and what it says is behind it -/
structure Whole (H P : List UInt8) : Prop where
  own : ipOwn H = (H.length : Int)
  h20 : 20 ≤ H.length
  four : at_ H 0 / 16 = 4
  all : be16 H 2 = (H.length : Int) + P.length
  big : H.length + P.length ≤ 2048
  sum : holds [H] = true
  cut : be16 H 6 = 0 ∨ be16 H 6 = 16384
theorem Whole.h60 {H P : List UInt8} (w : Whole H P) : H.length ≤ 60 := by
  have := w.own
  have := at_bd H 0
  unfold ipOwn at *; omega
def hdL (H : List UInt8) : Hd := ⟨at_ H 1, be16 H 4, decide (be16 H 6 = 16384), at_ H 8, at_ H 9, be32 H 12, be32 H 16, S (H.drop 20)⟩
theorem own_app {H X : List UInt8} (h : 1 ≤ H.length) : ipOwn (H ++ X) = ipOwn H := by unfold ipOwn; rw [at_left (by omega)]
theorem all_app {H X : List UInt8} (h : 20 ≤ H.length) : ipAll (H ++ X) = be16 H 2 := by
  show get16 (H ++ X) ((2 : Nat) : Int) = _
  rw [get16_nat (by simp; omega), be16_left (by omega)]
theorem whole_to {H P : List UInt8} (R : List UInt8) (w : Whole H P) :
    ipWhy (S (H ++ P ++ R)) = 0 ∧ hdOf (S (H ++ P ++ R)) = hdL H ∧ ipRest (S (H ++ P ++ R)) = S P := by
  obtain ⟨h1, h2, h3, h4, h5, h6, h7⟩ := w
  have eo : ipOwn (L (S (H ++ P ++ R))) = H.length := by rw [L_S, List.append_assoc, own_app (by omega), h1]
  have ea : ipAll (L (S (H ++ P ++ R))) = (H.length : Int) + P.length := by rw [L_S, List.append_assoc, all_app h2, h4]
  have ez : (S (H ++ P ++ R)).size = H.length + P.length + R.length := by rw [S_size]; simp; omega
  have et : (L (S (H ++ P ++ R))).take (ipOwn (L (S (H ++ P ++ R)))).toNat = H := by rw [eo, L_S, Int.toNat_natCast, List.append_assoc, List.take_left]
  have e0 : at_ (L (S (H ++ P ++ R))) 0 = at_ H 0 := by rw [L_S, List.append_assoc, at_left (by omega)]
  have e6 : get16 (L (S (H ++ P ++ R))) 6 = be16 H 6 := by
    show get16 _ ((6 : Nat) : Int) = _
    rw [L_S, get16_nat (by simp; omega), List.append_assoc, be16_left (by omega)]
  have hw : ipWhy (S (H ++ P ++ R)) = 0 := by
    unfold ipWhy
    rw [if_neg (by omega), if_neg (by rw [e0]; omega), if_neg, if_neg, if_neg]
    · rw [e6]; omega
    · rw [et, h6]; decide
    · unfold ipFits
      rw [eo, ea, ez]
      simp; omega
  refine ⟨hw, ?_, ?_⟩
  · unfold hdOf hdL
    have f1 : at_ (L (S (H ++ P ++ R))) 1 = at_ H 1 := by rw [L_S, List.append_assoc, at_left (by omega)]
    have f8 : at_ (L (S (H ++ P ++ R))) 8 = at_ H 8 := by rw [L_S, List.append_assoc, at_left (by omega)]
    have f9 : at_ (L (S (H ++ P ++ R))) 9 = at_ H 9 := by rw [L_S, List.append_assoc, at_left (by omega)]
    have f4 : get16 (L (S (H ++ P ++ R))) 4 = be16 H 4 := by
      show get16 _ ((4 : Nat) : Int) = _
      rw [L_S, get16_nat (by simp; omega), List.append_assoc, be16_left (by omega)]
    have f12 : get32 (L (S (H ++ P ++ R))) 12 = be32 H 12 := by
      show get32 _ ((12 : Nat) : Int) = _
      rw [L_S, get32_nat (by simp; omega), List.append_assoc, be32_left (by omega)]
    have f16 : get32 (L (S (H ++ P ++ R))) 16 = be32 H 16 := by
      show get32 _ ((16 : Nat) : Int) = _
      rw [L_S, get32_nat (by simp; omega), List.append_assoc, be32_left (by omega)]
    have fo : (S (H ++ P ++ R)).extract 20 (ipOwn (L (S (H ++ P ++ R)))).toNat = S (H.drop 20) := by
      rw [← S_L ((S (H ++ P ++ R)).extract _ _), L_extract, eo, L_S, Int.toNat_natCast, List.append_assoc, List.drop_append_of_le_length (by omega), List.take_left' (by simp)]
    rw [f1, f8, f9, f4, e6, f12, f16, fo]
  · unfold ipRest
    rw [if_pos hw, ← S_L ((S (H ++ P ++ R)).extract _ _), L_extract, eo, ea, L_S, List.append_assoc, Int.toNat_natCast, List.drop_left, List.take_left' (by omega)]
theorem whole_of {s : ByteArray} (h : ipWhy s = 0) : ∃ H P R, s = S (H ++ P ++ R) ∧ Whole H P := by
  obtain ⟨h20, h2, h3, h4, h5⟩ := ipWhy_0 h
  have f0 : 20 ≤ ipOwn (L s) ∧ ipOwn (L s) ≤ ipAll (L s) ∧ ipAll (L s) ≤ s.size ∧ ipAll (L s) ≤ 2048 := by unfold ipFits at h3; simpa [and_assoc] using h3
  have hz : (L s).length = s.size := L_length s
  have z1 : ((L s).take (ipOwn (L s)).toNat).length = (ipOwn (L s)).toNat := by simp; omega
  have z2 : (((L s).drop (ipOwn (L s)).toNat).take ((ipAll (L s)).toNat - (ipOwn (L s)).toNat)).length = (ipAll (L s)).toNat - (ipOwn (L s)).toNat := by simp; omega
  refine ⟨(L s).take (ipOwn (L s)).toNat, ((L s).drop (ipOwn (L s)).toNat).take ((ipAll (L s)).toNat - (ipOwn (L s)).toNat), (L s).drop (ipAll (L s)).toNat, ?_, ?_, ?_, ?_, ?_, ?_, ?_, ?_⟩
  · have e : (L s).take (ipOwn (L s)).toNat ++ ((L s).drop (ipOwn (L s)).toNat).take ((ipAll (L s)).toNat - (ipOwn (L s)).toNat) ++ (L s).drop (ipAll (L s)).toNat = L s := by
      have q : (L s).drop (ipAll (L s)).toNat = ((L s).drop (ipOwn (L s)).toNat).drop ((ipAll (L s)).toNat - (ipOwn (L s)).toNat) := by
        rw [List.drop_drop]; congr 1; omega
      rw [q, List.append_assoc, List.take_append_drop, List.take_append_drop]
    rw [e, S_L]
  · have : ipOwn ((L s).take (ipOwn (L s)).toNat) = ipOwn (L s) := by
      show at_ ((L s).take _) 0 % 16 * 4 = _
      rw [at_take (by omega)]; rfl
    rw [this, z1]; omega
  · omega
  · rw [at_take (by omega)]; exact h2
  · rw [be16_take (by omega), z1, z2]
    have : ipAll (L s) = be16 (L s) 2 := by show get16 (L s) ((2 : Nat) : Int) = _; exact get16_nat (by omega)
    omega
  · omega
  · exact h4
  · rw [be16_take (by omega)]
    have : get16 (L s) 6 = be16 (L s) 6 := by show get16 (L s) ((6 : Nat) : Int) = _; exact get16_nat (by omega)
    rw [← this]; exact h5

/-! ### a header, changed -/
theorem head_is {H : List UInt8} (a c : Int) (h : 20 ≤ H.length) : headNew H a c = (H.take 8 ++ lifeOf H ++ put16 (headSum H a c)) ++ (put32 a ++ (put32 c ++ H.drop 20)) := by
  unfold headNew ipsOf; simp only [List.append_assoc]
theorem headSum_bd (H : List UInt8) (a c : Int) : 0 ≤ headSum H a c ∧ headSum H a c ≤ 65535 := updates_bd (be16_bd _ _)
theorem headNew_length {H : List UInt8} (a c : Int) (h : 20 ≤ H.length) : (headNew H a c).length = H.length := by
  unfold headNew lifeOf
  simp [put16_length, show (ipsOf a c).length = 8 from rfl]
  omega
theorem head_whole {H P Q : List UInt8} {a c : Int} (w : Whole H P) (ha : 0 ≤ a ∧ a ≤ 4294967295) (hc : 0 ≤ c ∧ c ≤ 4294967295) (h8 : 1 ≤ at_ H 8) (hq : Q.length = P.length) :
    Whole (headNew H a c) Q ∧ at_ (headNew H a c) 8 = at_ H 8 - 1 ∧ at_ (headNew H a c) 9 = at_ H 9 ∧ be32 (headNew H a c) 12 = a ∧ be32 (headNew H a c) 16 = c := by
  obtain ⟨h1, h2, h3, h4, h5, h6, h7⟩ := w
  have hz := headNew_length a c h2
  have hm := headSum_bd H a c
  have hu : (headSum H a c - (be16 H 10 + tot (words ((H.drop 8).take 2 ++ (H.drop 12).take 8)) - tot (words (lifeOf H ++ ipsOf a c)))) % 65535 = 0 :=
    updates_mod (be16_bd _ _) (by simp [lifeOf, show (ipsOf a c).length = 8 from rfl]; omega) (by simp; omega)
  have e12 : be32 (headNew H a c) 12 = a := by
    rw [head_is a c h2, be32_right (by simp [lifeOf, put16_length]; omega)]
    rw [show 12 - (H.take 8 ++ lifeOf H ++ put16 (headSum H a c)).length = 0 from by simp [lifeOf, put16_length]; omega]
    exact be32_put a _ ha.1 ha.2
  have e16 : be32 (headNew H a c) 16 = c := by
    rw [head_is a c h2, ← List.append_assoc, be32_right (by simp [lifeOf, put16_length, put32_length]; omega)]
    rw [show 16 - (H.take 8 ++ lifeOf H ++ put16 (headSum H a c) ++ put32 a).length = 0 from by simp [lifeOf, put16_length, put32_length]; omega]
    exact be32_put c _ hc.1 hc.2
  rw [holds_iff] at h6
  rw [head_is a c h2] at hz ⊢
  rw [head_is a c h2] at e12 e16
  generalize headSum H a c = m at *
  obtain ⟨b0, b1, b2, b3, b4, b5, b6, b7, b8, b9, b10, b11, b12, b13, b14, b15, b16, b17, b18, b19, o, rfl⟩ := twenty h2
  have g8 : 1 ≤ (b8.toNat : Int) := h8
  have q8 : ((byt ((b8.toNat : Int) - 1)).toNat : Int) = (b8.toNat : Int) - 1 := by
    have := b8.toNat_lt
    rw [byt_int _ (by omega)]; omega
  have hA : tot (words (put32 a ++ (put32 c ++ o))) = a / 65536 + (a % 65536 + (c / 65536 + (c % 65536 + tot (words o)))) := by
    unfold put32
    rw [List.append_assoc, List.append_assoc, words_put _ _ (by omega), words_put _ _ (by omega), words_put _ _ (by omega), words_put _ _ (by omega)]
    rfl
  have hB : tot (words (ipsOf a c)) = a / 65536 + (a % 65536 + (c / 65536 + (c % 65536 + 0))) := by
    unfold ipsOf put32
    rw [List.append_assoc, words_put _ _ (by omega), words_put _ _ (by omega), words_put _ _ (by omega), ← List.append_nil (put16 (c % 65536)), words_put _ _ (by omega)]
    rfl
  have tH : tot (words (b0 :: b1 :: b2 :: b3 :: b4 :: b5 :: b6 :: b7 :: b8 :: b9 :: b10 :: b11 :: b12 :: b13 :: b14 :: b15 :: b16 :: b17 :: b18 :: b19 :: o)) = ((b0.toNat : Int) * 256 + (b1.toNat : Int)) + (((b2.toNat : Int) * 256 + (b3.toNat : Int)) + (((b4.toNat : Int) * 256 + (b5.toNat : Int)) + (((b6.toNat : Int) * 256 + (b7.toNat : Int)) + (((b8.toNat : Int) * 256 + (b9.toNat : Int)) + (((b10.toNat : Int) * 256 + (b11.toNat : Int)) + (((b12.toNat : Int) * 256 + (b13.toNat : Int)) + (((b14.toNat : Int) * 256 + (b15.toNat : Int)) + (((b16.toNat : Int) * 256 + (b17.toNat : Int)) + (((b18.toNat : Int) * 256 + (b19.toNat : Int)) + tot (words o)))))))))) := rfl
  have tN : tot (words ((b0 :: b1 :: b2 :: b3 :: b4 :: b5 :: b6 :: b7 :: byt ((b8.toNat : Int) - 1) :: b9 :: (put16 m ++ (put32 a ++ (put32 c ++ o)))))) = ((b0.toNat : Int) * 256 + (b1.toNat : Int)) + (((b2.toNat : Int) * 256 + (b3.toNat : Int)) + (((b4.toNat : Int) * 256 + (b5.toNat : Int)) + (((b6.toNat : Int) * 256 + (b7.toNat : Int)) + ((((byt ((b8.toNat : Int) - 1)).toNat : Int) * 256 + (b9.toNat : Int)) + (m + (a / 65536 + (a % 65536 + (c / 65536 + (c % 65536 + tot (words o)))))))))) := by
    rw [← hA, ← tot_cons m, ← words_put m _ hm]; rfl
  have tO : tot (words (lifeOf (b0 :: b1 :: b2 :: b3 :: b4 :: b5 :: b6 :: b7 :: b8 :: b9 :: b10 :: b11 :: b12 :: b13 :: b14 :: b15 :: b16 :: b17 :: b18 :: b19 :: o) ++ ipsOf a c)) = (((byt ((b8.toNat : Int) - 1)).toNat : Int) * 256 + (b9.toNat : Int)) + (a / 65536 + (a % 65536 + (c / 65536 + (c % 65536 + 0)))) := by
    rw [← hB]; rfl
  have tI : tot (words (((b0 :: b1 :: b2 :: b3 :: b4 :: b5 :: b6 :: b7 :: b8 :: b9 :: b10 :: b11 :: b12 :: b13 :: b14 :: b15 :: b16 :: b17 :: b18 :: b19 :: o).drop 8).take 2 ++ ((b0 :: b1 :: b2 :: b3 :: b4 :: b5 :: b6 :: b7 :: b8 :: b9 :: b10 :: b11 :: b12 :: b13 :: b14 :: b15 :: b16 :: b17 :: b18 :: b19 :: o).drop 12).take 8)) = ((b8.toNat : Int) * 256 + (b9.toNat : Int)) + (((b12.toNat : Int) * 256 + (b13.toNat : Int)) + (((b14.toNat : Int) * 256 + (b15.toNat : Int)) + (((b16.toNat : Int) * 256 + (b17.toNat : Int)) + (((b18.toNat : Int) * 256 + (b19.toNat : Int)) + 0)))) := rfl
  have e10 : be16 (b0 :: b1 :: b2 :: b3 :: b4 :: b5 :: b6 :: b7 :: b8 :: b9 :: b10 :: b11 :: b12 :: b13 :: b14 :: b15 :: b16 :: b17 :: b18 :: b19 :: o) 10 = (b10.toNat : Int) * 256 + (b11.toNat : Int) := rfl
  have h64 : 64 ≤ (b0.toNat : Int) := by
    have : (b0.toNat : Int) / 16 = 4 := h3
    omega
  have n0 := tot_nonneg (words_bd o)
  simp only [List.flatMap_cons, List.flatMap_nil, List.append_nil] at h6
  rw [tI, tO, e10] at hu
  rw [tH] at h6
  refine ⟨⟨?_, ?_, ?_, ?_, ?_, ?_, ?_⟩, ?_, ?_, e12, e16⟩
  · rw [hz]; exact h1
  · omega
  · exact h3
  · rw [hz, hq]; exact h4
  · rw [hz, hq]; exact h5
  · rw [holds_iff]
    simp only [List.flatMap_cons, List.flatMap_nil, List.append_nil]
    show tot (words ((b0 :: b1 :: b2 :: b3 :: b4 :: b5 :: b6 :: b7 :: byt ((b8.toNat : Int) - 1) :: b9 :: (put16 m ++ (put32 a ++ (put32 c ++ o)))))) % 65535 = 0 ∧ tot (words ((b0 :: b1 :: b2 :: b3 :: b4 :: b5 :: b6 :: b7 :: byt ((b8.toNat : Int) - 1) :: b9 :: (put16 m ++ (put32 a ++ (put32 c ++ o)))))) ≠ 0
    rw [tN]
    have := b1.toNat_lt; have := b9.toNat_lt
    omega
  · exact h7
  · exact q8
  · rfl
end Go.Proofs.YtilfcikhipadpaaGreatDoor
end
