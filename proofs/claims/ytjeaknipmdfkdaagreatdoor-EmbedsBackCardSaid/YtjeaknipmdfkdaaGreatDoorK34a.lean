/- Several texts of this claim, one behind the other. -/
import Derived.Test.YtjeaknipmdfkdaaGreatDoorK23

section
/- EmbedsRest, and an error translated back: plain. No walk. -/
set_option linter.unusedVariables false
set_option linter.unusedSimpArgs false
namespace Go.Proofs.YtjeaknipmdfkdaaGreatDoor
open Go.RowKit

theorem em_at {l : List UInt8} (hem : emWhy l = 0) (a b c d : Int) {i : Nat} (hi : i < l.length) :
    at_ l i = at_ (emNew l a b c d) i ∨ ((12 ≤ i ∧ i < 20) ∨ (at_ l 9 ≠ 1 ∧ emAt l ≤ i ∧ i < emAt l + 4) ∨ (at_ l 9 = 1 ∧ emAt l + 4 ≤ i ∧ i < emAt l + 6)) ∨ i = 10 ∨ i = 11 ∨ (0 < emSumIn l ∧ (i = emSumIn l ∨ i = emSumIn l + 1)) := by
  obtain ⟨p1, p2, p3, _⟩ := emWhy_parts hem
  have hh := emHd_len a c p1 (show emAt l ≤ l.length by omega)
  by_cases hie : i < emAt l
  · by_cases hm : i < 10 ∨ 20 ≤ i
    · left
      rw [em_parts hem, at_left (by omega), emHd_at a c p1 (by omega) (by omega) hie]
    · right; omega
  · by_cases hx : ((at_ l 9 ≠ 1 ∧ emAt l ≤ i ∧ i < emAt l + 4) ∨ (at_ l 9 = 1 ∧ emAt l + 4 ≤ i ∧ i < emAt l + 6)) ∨ (0 < emSumIn l ∧ (i = emSumIn l ∨ i = emSumIn l + 1))
    · right; omega
    · left
      rw [em_parts hem, at_right (by omega), hh, emLo_at hem ⟨by omega, by omega, by omega⟩]
      congr 1; omega
theorem em_zero {l : List UInt8} (hem : emWhy l = 0) (h9 : at_ l 9 = 17) (a b c d : Int) (h0 : at_ l (emSumIn l) = 0) (h1 : at_ l (emSumIn l + 1) = 0) : at_ (emNew l a b c d) (emSumIn l) = 0 ∧ at_ (emNew l a b c d) (emSumIn l + 1) = 0 := by
  obtain ⟨p1, p2, p3, _⟩ := emWhy_parts hem
  have hh := emHd_len a c p1 (show emAt l ≤ l.length by omega)
  have hs : emSumIn l = emAt l + 6 := by unfold emSumIn; rw [if_pos h9]
  rw [hs] at h0 h1 ⊢
  have z : (l.drop (emAt l)).length = l.length - emAt l := List.length_drop
  have hb : be16 (l.drop (emAt l)) 6 = 0 := by rw [be16_drop]; unfold be16; rw [h0, Nat.add_assoc] at *; rw [show at_ l (emAt l + (6 + 1)) = 0 from h1]; rfl
  have hn : be16 (emLo l a b c d) 6 = 0 := by
    unfold emLo crOf
    rw [emTup_p, if_pos h9, flow_new (by omega) (by decide), hb]
    unfold flowFix
    rw [if_pos rfl, if_pos rfl]
  have b0 := at_bd (emLo l a b c d) 6; have b1 := at_bd (emLo l a b c d) 7
  have e0 : at_ (emLo l a b c d) 6 * 256 + at_ (emLo l a b c d) 7 = 0 := hn
  rw [em_parts hem, at_right (by omega), at_right (by omega), hh, show emAt l + 6 - emAt l = 6 from by omega, show emAt l + 6 + 1 - emAt l = 7 from by omega]
  omega
section
variable {P : List UInt8} (h8 : 8 ≤ P.length) (hem : emWhy (P.drop 8) = 0) (a b c d : Int)
include h8 hem
theorem low_take2 : (trLow P a b c d).take 2 = P.take 2 := by
  unfold trLow
  rw [lay_take (by rw [low_len0 h8 hem]; omega), List.take_append_of_le_length (by simp; omega), List.take_take]; rfl
theorem low_mid : ((trLow P a b c d).drop 4).take 4 = (P.drop 4).take 4 := by
  unfold trLow
  have e : (lay (P.take 8 ++ emNew (P.drop 8) a b c d) 2 (trSum P a b c d)).drop 4 = (P.take 8 ++ emNew (P.drop 8) a b c d).drop 4 := lay_drop (k := 2) (by rw [low_len0 h8 hem]; omega)
  rw [e, List.drop_append_of_le_length (by simp; omega), List.take_append_of_le_length (by simp; omega), List.drop_take, List.take_take]; rfl
end
theorem em_rest {s : ByteArray} {oa ob oc od a b c d : Int} (h : emsWhy s = 0) (hl : 1 < (seenOf s).l) (hoa : 0 ≤ oa ∧ oa ≤ 4294967295) (hoc : 0 ≤ oc ∧ oc ≤ 4294967295)
    (ha : 0 ≤ a ∧ a ≤ 4294967295) (hb : 0 ≤ b ∧ b ≤ 65535) (hc : 0 ≤ c ∧ c ≤ 4294967295) (hd : 0 ≤ d ∧ d ≤ 65535) (u v : ByteArray) (hu : trOut s oa ob oc od a b c d = u) (hv : rwOut s oa ob oc od = v) :
    trWhy s = 0 ∧ rwWhy s = 0 ∧ v.size = u.size ∧ 36 ≤ u.size ∧ u.size ≤ s.size ∧ (∃ o : Nat, ((o : Nat) : Int) = at_ (L u) 0 % 16 * 4 ∧ o ≤ 60 ∧ o + 8 ≤ u.size ∧ v.extract 0 (o + 2) = u.extract 0 (o + 2) ∧ v.extract (o + 4) (o + 8) = u.extract (o + 4) (o + 8)) ∧
    (emData u).size = (emData s).size ∧ 28 ≤ (emData s).size ∧ emAt (L (emData s)) + 8 ≤ (emData s).size ∧ 8 ≤ (ipRest s).size ∧ 8 ≤ (ipRest u).size ∧ emWhy (L (emData s)) = 0 ∧ L (emData u) = emNew (L (emData s)) a b c d := by
  obtain ⟨H, P, R, hs, w, h9, h8, hk, hem, h1, e1, e2, e3, e4, w2, g8, g9, g12, g16, hz, k2, hdp, k3⟩ := em_two (oa := oa) (ob := ob) (oc := oc) (od := od) h hl hoa hoc ha hb hc hd
  obtain ⟨s1, s2, s3, s4, s5, s6⟩ := err_of R w h9 h8 hk hem
  obtain ⟨u1, u2, u3, u4, u5, u6⟩ := err_of [] w2 g9 (by omega) k2 k3
  rw [e4] at hu
  rw [e3] at hv
  rw [List.append_nil, hu] at u4 u5
  rw [← hs] at s4 s5
  obtain ⟨p1, p2, p3, _⟩ := emWhy_parts hem
  obtain ⟨m1, _⟩ := em_again hem ha hb hc hd _ rfl
  have hh := headNew_length (H := H) oa oc w.h20
  have h20 := w.h20; have h60 := w2.h60
  have hsz : s.size = H.length + P.length + R.length := by rw [hs, S_size, List.length_append, List.length_append]
  have husz : u.size = H.length + P.length := by rw [← hu, S_size, List.length_append, hh, hz]
  have hvsz : v.size = H.length + P.length := by rw [← hv, S_size, List.length_append, hh]
  have pd : (P.drop 8).length = P.length - 8 := List.length_drop
  have own := w2.own
  have ow : ((headNew H oa oc).length : Int) = at_ (L u) 0 % 16 * 4 := by
    rw [← own, ← hu, L_S]; unfold ipOwn; rw [at_left (by omega)]
  rw [s5, u5, L_S, L_S, hdp, S_size, S_size, m1, s4, u4, S_size, S_size]
  refine ⟨e2, e1, by omega, by omega, by omega, ⟨(headNew H oa oc).length, ow, by omega, by omega, ?_, ?_⟩, rfl, by omega, by omega, h8, by omega, hem, rfl⟩
  · refine L_inj ?_
    rw [L_to, L_to, ← hu, ← hv, L_S, L_S, List.take_length_add_append, List.take_length_add_append, low_take2 h8 hem]
  · refine L_inj ?_
    rw [L_extract, L_extract, ← hu, ← hv, L_S, L_S, List.drop_length_add_append, List.drop_length_add_append, show (headNew H oa oc).length + 8 - ((headNew H oa oc).length + 4) = 4 from by omega, low_mid h8 hem]
end Go.Proofs.YtjeaknipmdfkdaaGreatDoor
end
