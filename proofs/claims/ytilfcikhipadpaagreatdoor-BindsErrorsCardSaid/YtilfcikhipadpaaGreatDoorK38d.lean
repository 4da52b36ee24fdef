/- Several texts of this claim, one behind the other. -/
import Derived.Test.YtilfcikhipadpaaGreatDoorK37c
import Derived.Test.YtilfcikhipadpaaGreatDoorK36f
import Derived.KernelRfl

section
/- An error, translated: plain laws. No walk. -/
set_option linter.unusedVariables false
set_option linter.unusedSimpArgs false
namespace Go.Proofs.YtilfcikhipadpaaGreatDoor
open Go.RowKit

theorem at_ext {a b : List UInt8} (hz : a.length = b.length) (h : ∀ i, i < a.length → at_ a i = at_ b i) : a = b := by
  apply List.ext_getElem hz
  intro i h1 h2
  have q := h i h1
  unfold at_ at q
  rw [List.getD_eq_getElem?_getD, List.getD_eq_getElem?_getD, List.getElem?_eq_getElem h1, List.getElem?_eq_getElem h2] at q
  simp only [Option.getD_some] at q
  exact UInt8.toNat_inj.1 (by omega)
/-- the sum of an error's message, and the message, changed -/
def trSum (P : List UInt8) (a b c d : Int) : Int := updates (be16 P 2) ((P.drop 8).take (emEven (P.drop 8))) ((emNew (P.drop 8) a b c d).take (emEven (P.drop 8)))
def trLow (P : List UInt8) (a b c d : Int) : List UInt8 := lay (P.take 8 ++ emNew (P.drop 8) a b c d) 2 (trSum P a b c d)
theorem err_of {G P : List UInt8} (R : List UInt8) (w : Whole G P) (h9 : at_ G 9 = 1) (h8 : 8 ≤ P.length) (hk : kindOf (at_ P 0) = 3) (hem : emWhy (P.drop 8) = 0) :
    seenWhy (S (G ++ P ++ R)) = 0 ∧ seenOf (S (G ++ P ++ R)) = ⟨⟨1, be32 G 12, 0, be32 G 16, 0⟩, 3, 0, false, at_ G 8⟩ ∧ ipWhy (S (G ++ P ++ R)) = 0 ∧ ipRest (S (G ++ P ++ R)) = S P ∧ emData (S (G ++ P ++ R)) = S (P.drop 8) ∧ emsWhy (S (G ++ P ++ R)) = 0 := by
  obtain ⟨e1, e2, e3⟩ := seen_whole R w
  obtain ⟨i1, i2, i3⟩ := whole_to R w
  have hq : qErr (msgOf (S P)) = true := by unfold qErr; rw [msg_t, hk]; rfl
  have hi : qIs (msgOf (S P)) = false := by unfold qIs; rw [msg_t, hk]; simp
  have ha : qAsk (msgOf (S P)) = false := by unfold qAsk; rw [msg_t, hk]; simp
  have hw : loadWhy (at_ G 9) (S P) = 0 := by
    unfold loadWhy
    rw [h9, if_neg (by decide), if_neg (by decide), if_pos rfl, if_neg (by rw [S_size]; omega), if_pos (Or.inr hq)]
  rw [hw] at e1
  have e4 := e2 hw
  have e5 : loadSeen (hdL G) (S P) = ⟨⟨1, be32 G 12, 0, be32 G 16, 0⟩, 3, 0, false, at_ G 8⟩ := by
    rw [seen_msg (h := hdL G) h9 h8, ha, hi, if_neg (by decide), if_neg (by decide)]
    rfl
  rw [e5] at e4
  obtain ⟨d1, d2⟩ := emData_of i3
  refine ⟨e1, e4, i1, i3, d1, ?_⟩
  unfold emsWhy
  rw [if_neg (by omega), e4, d1, L_S]
  exact (if_neg (by simp)).trans hem
theorem tr_parts {s : ByteArray} {oa ob oc od a b c d : Int} (h : emsWhy s = 0) (hl : 1 < (seenOf s).l) :
    ∃ H P R : List UInt8, s = S (H ++ P ++ R) ∧ Whole H P ∧ at_ H 9 = 1 ∧ 8 ≤ P.length ∧ kindOf (at_ P 0) = 3 ∧ emWhy (P.drop 8) = 0 ∧ 1 < at_ H 8 ∧ rwWhy s = 0 ∧ trWhy s = 0 ∧ rwOut s oa ob oc od = S (headNew H oa oc ++ P) ∧ trOut s oa ob oc od a b c d = S (headNew H oa oc ++ trLow P a b c d) := by
  obtain ⟨q1, q2, q3⟩ := ems_seen h
  obtain ⟨H, P, R, hs, w, h1, h2, h3, h4, h5, h6, h7, h8⟩ := err_whole q1 q2
  obtain ⟨d1, d2⟩ := emData_of h4
  rw [d1, L_S] at q3
  have hk : kindOf (at_ P 0) = 3 := by unfold qErr at h7; rw [msg_t] at h7; simpa using h7
  have hrw : rwWhy s = 0 := by unfold rwWhy; rw [if_neg (by omega), if_neg (by omega)]
  have htr : trWhy s = 0 := by unfold trWhy; rw [if_neg (by omega), hrw]
  obtain ⟨e1, e2, e3⟩ := seen_whole R w
  rw [← hs] at e3
  have ho : rwOut s oa ob oc od = S (headNew H oa oc ++ P) := by
    unfold rwOut
    rw [if_pos hrw, e3]
    unfold loadNew
    rw [h2] at q2 ⊢
    have hp : (loadSeen (hdL H) (S P)).t.p = 1 := by
      obtain ⟨g1, g2, g3, g4, g5, g6⟩ := err_of R w h5 h6 hk q3
      rw [← hs, h2] at g2
      rw [g2]
    rw [if_neg (by omega), if_neg (by omega), if_pos q2]
  have hhl := headNew_length (H := H) oa oc w.h20
  refine ⟨H, P, R, hs, w, h5, h6, hk, q3, by omega, hrw, htr, ho, ?_⟩
  unfold trOut
  rw [if_pos htr]
  refine congrArg S ?_
  unfold trNew
  rw [ho, S_size, L_S, d1, S_size, List.length_append, List.length_drop, show (headNew H oa oc).length + P.length - (P.length - 8) = (headNew H oa oc).length + 8 from by omega, show (headNew H oa oc).length + 8 - 6 = (headNew H oa oc).length + 2 from by omega, List.take_length_add_append, L_S, List.append_assoc, ← app_lay (k := (headNew H oa oc).length + 2) (j := 2) rfl]
  have e9 : emSum s a b c d = trSum P a b c d := by unfold emSum trSum; rw [d2, d1, L_S]
  rw [e9]
  rfl
section
variable {P : List UInt8} (h8 : 8 ≤ P.length) (hem : emWhy (P.drop 8) = 0) (a b c d : Int)
include h8 hem
theorem low_len0 : (P.take 8 ++ emNew (P.drop 8) a b c d).length = P.length := by
  rw [List.length_append, emNew_len hem, List.length_take, List.length_drop]; omega
theorem low_len : (trLow P a b c d).length = P.length := by
  unfold trLow
  rw [lay_length (by rw [low_len0 h8 hem]; omega), low_len0 h8 hem]
theorem low_drop : (trLow P a b c d).drop 8 = emNew (P.drop 8) a b c d := by
  unfold trLow
  have e : (lay (P.take 8 ++ emNew (P.drop 8) a b c d) 2 (trSum P a b c d)).drop 4 = (P.take 8 ++ emNew (P.drop 8) a b c d).drop 4 := lay_drop (k := 2) (by rw [low_len0 h8 hem]; omega)
  rw [show 8 = 4 + 4 from rfl, ← List.drop_drop, show 4 + 4 = 8 from rfl, e, List.drop_drop, List.drop_left' (by simp; omega)]
theorem low_at {i : Nat} (hi : i < 2 ∨ 4 ≤ i) (h : i < 8) : at_ (trLow P a b c d) i = at_ P i := by
  unfold trLow
  rw [at_lay (by rw [low_len0 h8 hem]; omega) (by omega), at_left (by rw [List.length_take]; omega), at_take h]
omit h8 in
theorem em_last : (emNew (P.drop 8) a b c d).drop (emEven (P.drop 8)) = (P.drop 8).drop (emEven (P.drop 8)) := by
  obtain ⟨p1, p2, p3, _⟩ := emWhy_parts hem
  have hz := emNew_len hem a b c d
  have hev : emAt (P.drop 8) % 4 = 0 := by
    have hb := at_bd (P.drop 8) 0
    unfold emAt emEnd; omega
  generalize P.drop 8 = D at *
  refine at_ext (by rw [List.length_drop, List.length_drop, hz]) ?_
  intro i hi
  rw [List.length_drop, hz] at hi
  have hlen := emHd_len a c p1 (show emAt D ≤ D.length by omega)
  have hE : emEven D = D.length / 2 * 2 := rfl
  rw [at_drop, at_drop, em_parts hem, at_right (by omega), hlen, emLo_at hem]
  · congr 1; omega
  · refine ⟨by omega, by omega, ?_⟩
    unfold emSumIn
    split
    · omega
    · split
      · omega
      · split <;> omega
omit h8 in
theorem low_mod : (trSum P a b c d - (be16 P 2 + tot (words (P.drop 8)) - tot (words (emNew (P.drop 8) a b c d)))) % 65535 = 0 := by
  have hz := emNew_len hem a b c d
  have hl := em_last hem a b c d
  unfold trSum
  generalize P.drop 8 = D at *
  have z1 : (D.take (emEven D)).length = emEven D := by rw [List.length_take]; unfold emEven; omega
  have z2 : ((emNew D a b c d).take (emEven D)).length = emEven D := by rw [List.length_take, hz]; unfold emEven; omega
  have hE : emEven D % 2 = 0 := by unfold emEven; omega
  have hu := updates_mod (n := be16 P 2) (a := D.take (emEven D)) (b := (emNew D a b c d).take (emEven D)) (be16_bd _ _) (by rw [z1, z2]) (by rw [z1]; exact hE)
  have t1 : tot (words D) = tot (words (D.take (emEven D))) + tot (words (D.drop (emEven D))) := by
    conv => lhs; rw [← List.take_append_drop (emEven D) D]
    rw [words_even _ _ (by rw [z1]; exact hE), tot_append]
  have t2 : tot (words (emNew D a b c d)) = tot (words ((emNew D a b c d).take (emEven D))) + tot (words (D.drop (emEven D))) := by
    conv => lhs; rw [← List.take_append_drop (emEven D) (emNew D a b c d)]
    rw [words_even _ _ (by rw [z2]; exact hE), tot_append, hl]
  rw [t1, t2]
  omega
theorem low_holds (hk : kindOf (at_ P 0) = 3) : holds [trLow P a b c d] = holds [P] := by
  have hz := low_len h8 hem a b c d
  have f0 := low_at h8 hem a b c d (i := 0) (by omega) (by omega)
  have k0 : at_ P 0 ≠ 0 := by intro e; rw [e] at hk; unfold kindOf at hk; simp at hk
  have hm := low_mod hem a b c d
  have hb : 0 ≤ trSum P a b c d ∧ trSum P a b c d ≤ 65535 := updates_bd (be16_bd _ _)
  have z8 : (P.take 8).length = 8 := by simp; omega
  have t1 : tot (words P) = tot (words (P.take 8)) + tot (words (P.drop 8)) := by
    conv => lhs; rw [← List.take_append_drop 8 P]
    rw [words_even _ _ (by rw [z8]), tot_append]
  have g2 : be16 (P.take 8 ++ emNew (P.drop 8) a b c d) 2 = be16 P 2 := by rw [be16_left (by omega), be16_take (by omega)]
  have t2 : tot (words (trLow P a b c d)) = tot (words (P.take 8)) + tot (words (emNew (P.drop 8) a b c d)) - be16 P 2 + trSum P a b c d := by
    unfold trLow
    rw [lay_tot2 (by rw [low_len0 h8 hem]; omega) (by decide) hb, g2, words_even _ _ (by rw [z8]), tot_append]
  refine holds_same ?_ ?_ ?_
  · simp only [List.flatMap_cons, List.flatMap_nil, List.append_nil]
    rw [t1, t2]; omega
  · simp only [List.flatMap_cons, List.flatMap_nil, List.append_nil]; exact tot_ne (by rw [f0]; exact k0) (by omega)
  · simp only [List.flatMap_cons, List.flatMap_nil, List.append_nil]; exact tot_ne k0 (by omega)
end
end Go.Proofs.YtilfcikhipadpaaGreatDoor
end

section
/- EmbedsInner, plain. No walk. -/
set_option linter.unusedVariables false
set_option linter.unusedSimpArgs false
namespace Go.Proofs.YtilfcikhipadpaaGreatDoor
open Go.RowKit

/-- an error that is translated, and what it was -/
theorem em_two {s : ByteArray} {oa ob oc od a b c d : Int} (h : emsWhy s = 0) (hl : 1 < (seenOf s).l) (hoa : 0 ≤ oa ∧ oa ≤ 4294967295) (hoc : 0 ≤ oc ∧ oc ≤ 4294967295)
    (ha : 0 ≤ a ∧ a ≤ 4294967295) (hb : 0 ≤ b ∧ b ≤ 65535) (hc : 0 ≤ c ∧ c ≤ 4294967295) (hd : 0 ≤ d ∧ d ≤ 65535) :
    ∃ H P R : List UInt8, s = S (H ++ P ++ R) ∧ Whole H P ∧ at_ H 9 = 1 ∧ 8 ≤ P.length ∧ kindOf (at_ P 0) = 3 ∧ emWhy (P.drop 8) = 0 ∧ 1 < at_ H 8 ∧ rwWhy s = 0 ∧ trWhy s = 0 ∧ rwOut s oa ob oc od = S (headNew H oa oc ++ P) ∧ trOut s oa ob oc od a b c d = S (headNew H oa oc ++ trLow P a b c d) ∧
      Whole (headNew H oa oc) (trLow P a b c d) ∧ at_ (headNew H oa oc) 8 = at_ H 8 - 1 ∧ at_ (headNew H oa oc) 9 = 1 ∧ be32 (headNew H oa oc) 12 = oa ∧ be32 (headNew H oa oc) 16 = oc ∧
      (trLow P a b c d).length = P.length ∧ kindOf (at_ (trLow P a b c d) 0) = 3 ∧ (trLow P a b c d).drop 8 = emNew (P.drop 8) a b c d ∧ emWhy ((trLow P a b c d).drop 8) = 0 := by
  obtain ⟨H, P, R, hs, w, h9, h8, hk, hem, h1, e1, e2, e3, e4⟩ := tr_parts (oa := oa) (ob := ob) (oc := oc) (od := od) (a := a) (b := b) (c := c) (d := d) h hl
  have hz := low_len h8 hem a b c d
  obtain ⟨w2, g8, g9, g12, g16⟩ := head_whole (Q := trLow P a b c d) w hoa hoc (by omega) hz
  have hdp := low_drop h8 hem a b c d
  obtain ⟨_, _, k3, _⟩ := em_again hem ha hb hc hd _ rfl
  exact ⟨H, P, R, hs, w, h9, h8, hk, hem, h1, e1, e2, e3, e4, w2, g8, by rw [g9, h9], g12, g16, hz, by rw [low_at h8 hem a b c d (by omega) (by omega)]; exact hk, hdp, by rw [hdp]; exact k3⟩
theorem em_inner {s : ByteArray} {oa ob oc od a b c d : Int} (h : emsWhy s = 0) (hl : 1 < (seenOf s).l) (hoa : 0 ≤ oa ∧ oa ≤ 4294967295) (hoc : 0 ≤ oc ∧ oc ≤ 4294967295)
    (ha : 0 ≤ a ∧ a ≤ 4294967295) (hb : 0 ≤ b ∧ b ≤ 65535) (hc : 0 ≤ c ∧ c ≤ 4294967295) (hd : 0 ≤ d ∧ d ≤ 65535) (u : ByteArray) (hu : trOut s oa ob oc od a b c d = u) :
    trWhy s = 0 ∧ emsWhy u = 0 ∧ seenWhy u = 0 ∧ seenOf u = ⟨⟨1, oa, 0, oc, 0⟩, 3, 0, false, (seenOf s).l - 1⟩ ∧ ipWhy s = 0 ∧ ipWhy u = 0 ∧ (emData u).size = (emData s).size ∧ 28 ≤ (emData s).size ∧ u.size ≤ s.size ∧
    emTup (L (emData u)) = emWant (L (emData s)) a b c d ∧ at_ (L (emData u)) 0 = at_ (L (emData s)) 0 ∧ 20 ≤ emAt (L (emData s)) ∧ emAt (L (emData s)) + 8 ≤ (emData s).size ∧
    holds [(L (emData s)).take (emAt (L (emData s)))] = holds [(L (emData u)).take (emAt (L (emData s)))] ∧ holds [L (ipRest s)] = holds [L (ipRest u)] ∧ 8 ≤ (ipRest s).size ∧ 8 ≤ (ipRest u).size := by
  obtain ⟨H, P, R, hs, w, h9, h8, hk, hem, h1, e1, e2, e3, e4, w2, g8, g9, g12, g16, hz, k2, hdp, k3⟩ := em_two (oa := oa) (ob := ob) (oc := oc) (od := od) h hl hoa hoc ha hb hc hd
  obtain ⟨s1, s2, s3, s4, s5, s6⟩ := err_of R w h9 h8 hk hem
  obtain ⟨u1, u2, u3, u4, u5, u6⟩ := err_of [] w2 g9 (by omega) k2 k3
  rw [e4] at hu
  rw [List.append_nil, hu] at u1 u2 u3 u4 u5 u6
  rw [← hs] at s1 s2 s3 s4 s5 s6
  obtain ⟨p1, p2, p3, _⟩ := emWhy_parts hem
  obtain ⟨m1, m2, m3, m4, _, m6, m7, _, m8⟩ := em_again hem ha hb hc hd _ rfl
  have hh := headNew_length (H := H) oa oc w.h20
  have hsz : s.size = H.length + P.length + R.length := by rw [hs, S_size, List.length_append, List.length_append]
  have husz : u.size = H.length + P.length := by rw [← hu, S_size, List.length_append, hh, hz]
  rw [s5, u5, L_S, L_S, hdp, S_size, S_size, m1, List.length_drop, s4, u4, L_S, L_S, S_size, S_size, s2]
  rw [List.length_drop] at p3
  refine ⟨e2, u6, u1, ?_, s3, u3, rfl, by omega, by omega, m6, m8, p1, p3, ?_, (low_holds h8 hem a b c d hk).symm, h8, by omega⟩
  · rw [u2, g12, g16, g8]
  · rw [m2] at m7; exact m7.symm
end Go.Proofs.YtilfcikhipadpaaGreatDoor
end

section
/- What an error about a packet that is sent is about: plain. -/
set_option linter.unusedVariables false
set_option linter.unusedSimpArgs false
namespace Go.Proofs.YtilfcikhipadpaaGreatDoor
open Go.RowKit
/-- the packet's first bytes say what it says -/
theorem about_ok {sn : ByteArray} (h : seenWhy sn = 0) (hk : (seenOf sn).k ≠ 3) (D : List UInt8) (hD : D = (L sn).take 548) : emWhy D = 0 ∧ emTup D = (seenOf sn).t ∧ (at_ D 9 = 1 → (seenOf sn).q = true → kindOf (at_ D (emAt D)) = 1) ∧ at_ D 9 = (seenOf sn).t.p := by
  obtain ⟨H, P, R, rfl, w, hw, hx, h8⟩ := taken_whole h
  rw [hx] at hk ⊢
  have h60 := w.h60
  have h20 := w.h20
  have hown := w.own
  have hfour := w.four
  have hcut := w.cut
  have hc := load_cases hw
  have hP8 : 8 ≤ P.length := by
    rcases hc with ⟨_, t⟩ | ⟨_, t⟩ | ⟨_, t, _⟩
    · have := tcpIs_len t; omega
    · exact udpIs_len t
    · exact t
  have hLn : D.length = min 548 (H.length + P.length + R.length) := by rw [hD, L_S, List.length_take, List.length_append, List.length_append]
  have A0 : ∀ i, i < H.length → at_ D i = at_ H i := fun i hi => by rw [hD, L_S, at_take (by omega), List.append_assoc, at_left hi]
  have A1 : ∀ j, j < 8 → at_ D (H.length + j) = at_ P j := fun j hj => by
    rw [hD, L_S, at_take (by omega), List.append_assoc, at_right (by omega), show H.length + j - H.length = j by omega, at_left (by omega)]
  have e0 : emEnd D = (H.length : Int) := by unfold emEnd; rw [A0 0 (by omega)]; unfold ipOwn at hown; exact hown
  have ea : emAt D = H.length := by unfold emAt; rw [e0]; rfl
  have b6 : be16 D 6 = be16 H 6 := be16_eq (A0 6 (by omega)) (A0 7 (by omega))
  have b12 : be32 D 12 = be32 H 12 := by unfold be32; rw [be16_eq (P := H) (A0 12 (by omega)) (A0 13 (by omega)), be16_eq (P := H) (A0 14 (by omega)) (A0 15 (by omega))]
  have b16 : be32 D 16 = be32 H 16 := by unfold be32; rw [be16_eq (P := H) (A0 16 (by omega)) (A0 17 (by omega)), be16_eq (P := H) (A0 18 (by omega)) (A0 19 (by omega))]
  have p0 : be16 D (emAt D) = be16 P 0 := by rw [ea]; unfold be16; rw [show H.length = H.length + 0 from rfl, A1 0 (by omega), show H.length + 0 + 1 = H.length + 1 from rfl, A1 1 (by omega)]
  have p2 : be16 D (emAt D + 2) = be16 P 2 := by rw [ea]; unfold be16; rw [A1 2 (by omega), show H.length + 2 + 1 = H.length + 3 from rfl, A1 3 (by omega)]
  have p4 : be16 D (emAt D + 4) = be16 P 4 := by rw [ea]; unfold be16; rw [A1 4 (by omega), show H.length + 4 + 1 = H.length + 5 from rfl, A1 5 (by omega)]
  have a9 : at_ D 9 = at_ H 9 := A0 9 (by omega)
  have m0 : (emMsg D).t = (msgOf (S P)).t := by rw [msg_t]; unfold emMsg; rw [ea]; exact A1 0 (by omega)
  have m1 : (emMsg D).c = (msgOf (S P)).c := by rw [msg_c]; unfold emMsg; rw [ea]; exact A1 1 (by omega)
  have N1 : ¬ ((D.length : Int) < 20 ∨ at_ D 0 / 16 ≠ 4) := by rw [A0 0 (by omega)]; rintro (h | h); omega; exact h hfour
  have N2 : ¬ (emEnd D < 20 ∨ (D.length : Int) - 8 < emEnd D ∨ be16 D 6 % 8192 ≠ 0) := by
    rw [e0, b6]; rintro (h | h | h); omega; omega; rcases hcut with c | c <;> rw [c] at h <;> exact h (by decide)
  rcases hc with ⟨hp, ht⟩ | ⟨hp, ht⟩ | ⟨hp, ht, hq⟩
  · have hz := tcpIs_len ht
    refine ⟨by unfold emWhy; rw [if_neg N1, if_neg N2, if_pos (Or.inl (by rw [a9, hp]))], ?_, fun e => absurd (e.symm.trans (a9.trans hp)) (by decide), ?_⟩
    · unfold emTup
      rw [if_pos (Or.inl (by rw [a9, hp])), seen_tcp hp hz, a9, hp, b12, b16, p0, p2]
      rfl
    · rw [seen_tcp hp hz, a9, hp]
  · have hz := udpIs_len ht
    refine ⟨by unfold emWhy; rw [if_neg N1, if_neg N2, if_pos (Or.inr (by rw [a9, hp]))], ?_, fun e => absurd (e.symm.trans (a9.trans hp)) (by decide), ?_⟩
    · unfold emTup
      rw [if_pos (Or.inr (by rw [a9, hp])), seen_udp hp hz, a9, hp, b12, b16, p0, p2]
      rfl
    · rw [seen_udp hp hz, a9, hp]
  · have qa : qAsk (emMsg D) = qAsk (msgOf (S P)) := by unfold qAsk; rw [m0, m1]
    have qi : qIs (emMsg D) = qIs (msgOf (S P)) := by unfold qIs; rw [m0, m1]
    have N3 : ¬ (at_ D 9 = 6 ∨ at_ D 9 = 17) := by rw [a9, hp]; decide
    have hs := seen_msg (h := hdL H) hp ht
    rw [hs] at hk ⊢
    have hin : qIs (msgOf (S P)) = true := by
      by_cases c1 : qAsk (msgOf (S P)) = true
      · unfold qAsk at c1; unfold qIs; simp at c1 ⊢; exact ⟨c1.1, .inl c1.2⟩
      · by_cases c2 : qIs (msgOf (S P)) = true
        · exact c2
        · rw [if_neg c1, if_neg c2] at hk; exact absurd rfl hk
    refine ⟨by unfold emWhy; rw [if_neg N1, if_neg N2, if_neg N3, if_neg (by rw [a9, hp]; decide), if_pos (by rw [qi, hin])], ?_, fun _ => ?_, ?_⟩
    · unfold emTup
      rw [if_neg N3, qa, a9, hp, b12, b16, p4]
      by_cases c1 : qAsk (msgOf (S P)) = true
      · rw [if_pos c1, if_pos c1]; rfl
      · rw [if_neg c1, if_neg c1, if_pos hin]; rfl
    · by_cases c1 : qAsk (msgOf (S P)) = true
      · intro _
        unfold qAsk at c1
        simp at c1
        rw [msg_t] at c1
        rw [ea, show H.length = H.length + 0 from rfl, A1 0 (by omega)]
        exact c1.2
      · rw [if_neg c1, if_pos hin]; intro e; cases e
    · by_cases c1 : qAsk (msgOf (S P)) = true
      · rw [if_pos c1, a9, hp]
      · rw [if_neg c1, if_pos hin, a9, hp]
end Go.Proofs.YtilfcikhipadpaaGreatDoor
end

section
/- porterref08.Wrong: what is seen of it. -/
set_option linter.unusedVariables false
set_option linter.unusedSimpArgs false
namespace Go.Proofs.YtilfcikhipadpaaGreatDoor
open Go.RowKit Go.Lib Rx
@[reducible] def wrMsg (ab : ByteArray) : Msg := ⟨3, 1, 0, { data := #[0, 0, 0, 0] }, ab⟩
@[reducible] def wrHd (a c : Int) : Hd := Hd.mk 0 0 false 64 1 a c { data := #[] }
theorem wrong_seen (a c : Int) (ab : ByteArray) (ha : 0 ≤ a ∧ a ≤ 4294967295) (hc : 0 ≤ c ∧ c ≤ 4294967295) (hz : ab.size ≤ 548) (l1 : ByteArray) (hl : l1 = S (icmpSeal (L (S (msgPut (wrMsg ab)))))) (he : ipErr (wrHd a c) l1 = 0) (o : ByteArray) (hO : o = ipText (wrHd a c) l1) :
    seenWhy o = 0 ∧ seenOf o = ⟨⟨1, a, 0, c, 0⟩, 3, 0, false, 64⟩ ∧ emData o = ab := by
  have z4 : ({ data := #[0, 0, 0, 0] } : ByteArray).size = 4 := rfl
  have o1 : (wrMsg ab).Ok := ⟨⟨(by decide : (0 : Int) ≤ 3), (by decide : (3 : Int) ≤ 255)⟩, ⟨(by decide : (0 : Int) ≤ 1), (by decide : (1 : Int) ≤ 255)⟩, ⟨(by decide : (0 : Int) ≤ 0), (by decide : (0 : Int) ≤ 65535)⟩, by rw [z4]; decide, by dsimp only; omega⟩
  have mp := msg_put_parse o1 rfl
  have hz1 : (msgPut (wrMsg ab)).length = ab.size + 8 := by rw [msgPut_length]; show 4 + 4 + ab.size = _; omega
  have i0 : at_ (msgPut (wrMsg ab)) 0 = 3 := by rw [← msg_t, mp]
  have id : (S (msgPut (wrMsg ab))).extract 8 (S (msgPut (wrMsg ab))).size = ab := congrArg Msg.d mp
  rw [L_S] at hl
  generalize msgPut (wrMsg ab) = Z at *
  have e : icmpSeal Z = lay Z 2 (icmpSum Z) := by unfold icmpSeal; rw [if_neg (by omega)]
  rw [e] at hl
  have j0 : (msgOf l1).t = 3 := by rw [hl, msg_t, at_lay (by omega) (by omega), i0]
  have qa : qAsk (msgOf l1) = false := by unfold qAsk; rw [j0]; simp [kindOf]
  have qi : qIs (msgOf l1) = false := by unfold qIs; rw [j0]; simp [kindOf]
  have qe : qErr (msgOf l1) = true := by unfold qErr; rw [j0]; rfl
  have hP : (lay Z 2 (icmpSum Z)).length = ab.size + 8 := by rw [lay_length (by omega), hz1]
  have hd : (msgOf l1).d = ab := by
    rw [← id]
    show l1.extract 8 l1.size = _
    have d8 : (lay Z 2 (icmpSum Z)).drop 8 = Z.drop 8 := by
      have h := lay_drop (l := Z) (k := 2) (n := icmpSum Z) (by omega)
      have h2 := congrArg (List.drop 4) h
      rw [List.drop_drop, List.drop_drop] at h2
      exact h2
    have x1 : l1.extract 8 l1.size = S ((lay Z 2 (icmpSum Z)).drop 8) := eq_S (by rw [hl, L_from, L_S])
    have x2 : (S Z).extract 8 (S Z).size = S (Z.drop 8) := eq_S (by rw [L_from, L_S])
    rw [x1, x2, d8]
  have hl8 : 8 ≤ l1.size := by rw [hl, S_size]; omega
  have lw : loadWhy 1 l1 = 0 := by unfold loadWhy; rw [if_neg (by decide), if_neg (by decide), if_pos rfl, if_neg (by omega), if_pos (Or.inr qe)]
  have ls : loadSeen (wrHd a c) l1 = ⟨⟨1, a, 0, c, 0⟩, 3, 0, false, 64⟩ := by
    unfold loadSeen
    rw [if_neg (by decide : ¬ (1 : Int) = 6), if_neg (by decide : ¬ (1 : Int) = 17), qa, qi]
    rfl
  have ho : (wrHd a c).Ok := by
    refine ⟨?_, ?_, ?_, ?_, ha, hc, ?_⟩ <;> (dsimp only; decide)
  obtain ⟨_, _, w0, hh, hr⟩ := ip_back (wrHd a c) l1 { data := #[] } ho he
  have ea : ∀ x : ByteArray, x ++ ({ data := #[] } : ByteArray) = x := fun x => by
    have := ByteArray.append_empty (b := x)
    exact this
  rw [ea] at w0 hh hr
  have et : o = S ((wrHd a c).put l1) := by rw [hO]; unfold ipText; rw [if_pos he]
  rw [← et] at w0 hh hr
  have hr' : ipRest o = l1 := by unfold ipRest; rw [if_pos w0]; exact hr
  have ws : seenWhy o = 0 := by unfold seenWhy; rw [if_pos w0, hh, hr']; exact lw
  have so : seenOf o = loadSeen (wrHd a c) l1 := by unfold seenOf; rw [if_pos ws, hh, hr']
  exact ⟨ws, by rw [so, ls], by unfold emData; rw [hr', hd]⟩
end Go.Proofs.YtilfcikhipadpaaGreatDoor
end
