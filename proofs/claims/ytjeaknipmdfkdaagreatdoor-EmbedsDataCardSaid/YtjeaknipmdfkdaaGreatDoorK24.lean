/- Several texts of this claim, one behind the other. -/
import Derived.Test.YtjeaknipmdfkdaaGreatDoorK23

section
/- Packets, changed twice, changed back: plain. No walk. -/
set_option linter.unusedVariables false
namespace Go.Proofs.YtjeaknipmdfkdaaGreatDoor
open Go.RowKit

/-- a packet with 0 for its TTL, and its header's sum -/
def zeroH (l : List UInt8) : List UInt8 := ((l.set 8 0).set 10 0).set 11 0
def fix0 (n : Int) : Int := if n = 65535 then 0 else n
/-- so, and with 0 for a sum of 65535 -/
def plainL (l : List UInt8) (k : Nat) : List UInt8 := if 0 < k ∧ k + 1 < l.length ∧ at_ (zeroH l) k = 255 ∧ at_ (zeroH l) (k + 1) = 255 then ((zeroH l).set k 0).set (k + 1) 0 else zeroH l
def sumAtL (x : Seen) (own : Nat) : Nat := if x.t.p = 6 then own + 16 else if x.t.p = 17 then own + 6 else if x.k = 3 then 0 else own + 2
theorem zero_len (l : List UInt8) : (zeroH l).length = l.length := by simp [zeroH]
theorem zero_app {H P : List UInt8} (h : 20 ≤ H.length) : zeroH (H ++ P) = zeroH H ++ P := by
  unfold zeroH; rw [List.set_append_left _ _ (by omega), List.set_append_left _ _ (by simp; omega), List.set_append_left _ _ (by simp; omega)]
theorem plain_0 {H P : List UInt8} (h : 20 ≤ H.length) : plainL (H ++ P) 0 = zeroH H ++ P := by
  unfold plainL; rw [if_neg (by omega), zero_app h]
theorem plain_is {H P : List UInt8} {j k : Nat} (h : 20 ≤ H.length) (hj : j + 2 ≤ P.length) (hk : k = H.length + j) : plainL (H ++ P) k = zeroH H ++ lay P j (fix0 (be16 P j)) := by
  subst hk
  have hz := zero_len H
  have b0 := at_bd P j
  have b1 := at_bd P (j + 1)
  have eb : be16 P j = at_ P j * 256 + at_ P (j + 1) := rfl
  unfold plainL
  rw [zero_app h, at_right (by omega), at_right (by omega), hz, show H.length + j - H.length = j from by omega, show H.length + j + 1 - H.length = j + 1 from by omega]
  unfold fix0
  by_cases e : be16 P j = 65535
  · rw [if_pos (by simp; omega), if_pos e, List.set_append_right _ _ (by omega), List.set_append_right _ _ (by omega), hz, show H.length + j - H.length = j from by omega, show H.length + j + 1 - H.length = j + 1 from by omega, lay_zero hj]
  · rw [if_neg (by omega), if_neg e, lay_self hj]
theorem ips_self {H : List UInt8} (h : 20 ≤ H.length) : ipsOf (be32 H 12) (be32 H 16) = (H.drop 12).take 8 := by
  obtain ⟨b0, b1, b2, b3, b4, b5, b6, b7, b8, b9, b10, b11, b12, b13, b14, b15, b16, b17, b18, b19, o, rfl⟩ := twenty h
  have e12 : be32 (b0 :: b1 :: b2 :: b3 :: b4 :: b5 :: b6 :: b7 :: b8 :: b9 :: b10 :: b11 :: b12 :: b13 :: b14 :: b15 :: b16 :: b17 :: b18 :: b19 :: o) 12 = ((b12.toNat : Int) * 256 + (b13.toNat : Int)) * 65536 + ((b14.toNat : Int) * 256 + (b15.toNat : Int)) := rfl
  have e16 : be32 (b0 :: b1 :: b2 :: b3 :: b4 :: b5 :: b6 :: b7 :: b8 :: b9 :: b10 :: b11 :: b12 :: b13 :: b14 :: b15 :: b16 :: b17 :: b18 :: b19 :: o) 16 = ((b16.toNat : Int) * 256 + (b17.toNat : Int)) * 65536 + ((b18.toNat : Int) * 256 + (b19.toNat : Int)) := rfl
  unfold ipsOf
  rw [e12, e16, put32_be, put32_be]
  rfl
theorem ips_new {H : List UInt8} (a c : Int) (h : 20 ≤ H.length) : ((headNew H a c).drop 12).take 8 = ipsOf a c := by
  rw [head_is a c h, List.drop_left' (by simp [lifeOf, put16_length]; omega), ← List.append_assoc]
  exact List.take_left' rfl
section
variable {P ips : List UInt8} {a b c d a2 b2 c2 d2 : Int} {k : Nat}
end
/-- two texts that are alike but for what a sum of 0 or 65535 is -/
def Like (x : Seen) (n : Nat) (P Q : List UInt8) : Prop :=
  P.length = n ∧ Q.length = n ∧ ((∀ own, sumAtL x own = 0) ∧ P = Q ∨ ∃ j X m m', (∀ own, sumAtL x own = own + j) ∧ X.length = n ∧ j + 2 ≤ n ∧ P = lay X j m ∧ Q = lay X j m' ∧ (0 ≤ m ∧ m ≤ 65535) ∧ (0 ≤ m' ∧ m' ≤ 65535) ∧ fix0 m = fix0 m')
theorem Like.plain {x : Seen} {n : Nat} {P Q H G : List UInt8} (h : Like x n P Q) (h20 : 20 ≤ H.length) (hz : G.length = H.length) (he : zeroH H = zeroH G) : plainL (H ++ P) (sumAtL x H.length) = plainL (G ++ Q) (sumAtL x G.length) := by
  obtain ⟨z1, z2, ⟨h0, rfl⟩ | ⟨j, X, m, m', hs, hx, hj, rfl, rfl, hm, hm', e⟩⟩ := h
  · rw [h0, h0, plain_0 h20, plain_0 (by omega), he]
  · rw [plain_is (j := j) h20 (by omega) (hs _), plain_is (j := j) (by omega) (by omega) (hs _), he, lay_at (by omega) hm, lay_at (by omega) hm', e, lay_lay (by omega), lay_lay (by omega)]
end Go.Proofs.YtjeaknipmdfkdaaGreatDoor
end

section
/- Packets, changed: what the statements say of them, plain. No walk. -/
set_option linter.unusedVariables false
namespace Go.Proofs.YtjeaknipmdfkdaaGreatDoor
open Go.RowKit

theorem load_ends (h : Hd) (l : ByteArray) : (loadSeen h l).t.a = h.s ∧ (loadSeen h l).t.c = h.d ∧ (loadSeen h l).l = h.l := by
  unfold loadSeen
  split
  · exact ⟨rfl, rfl, rfl⟩
  split
  · exact ⟨rfl, rfl, rfl⟩
  split
  · exact ⟨rfl, rfl, rfl⟩
  split <;> exact ⟨rfl, rfl, rfl⟩
theorem taken_whole {s : ByteArray} (h : seenWhy s = 0) : ∃ H P R, s = S (H ++ P ++ R) ∧ Whole H P ∧ loadWhy (at_ H 9) (S P) = 0 ∧ seenOf s = loadSeen (hdL H) (S P) ∧ (seenOf s).l = at_ H 8 := by
  have hip : ipWhy s = 0 := by
    unfold seenWhy at h
    by_cases hi : ipWhy s = 0
    · exact hi
    · rw [if_neg hi] at h; exact h
  obtain ⟨H, P, R, rfl, w⟩ := whole_of hip
  obtain ⟨e1, e2, _⟩ := seen_whole R w
  rw [e1] at h
  exact ⟨H, P, R, rfl, w, h, e2 h, by rw [e2 h]; exact (load_ends _ _).2.2⟩
/-- what a whole packet is, changed -/
theorem out_whole {H P : List UInt8} (R : List UInt8) {a b c d : Int} (w : Whole H P) (hw : loadWhy (at_ H 9) (S P) = 0) (h8 : 2 ≤ at_ H 8) (ha : 0 ≤ a ∧ a ≤ 4294967295) (hb : 0 ≤ b ∧ b ≤ 65535) (hc : 0 ≤ c ∧ c ≤ 4294967295) (hd : 0 ≤ d ∧ d ≤ 65535) :
    ∃ G Q, Whole G Q ∧ G = headNew H a c ∧ Q = loadNew (loadSeen (hdL H) (S P)) P ((H.drop 12).take 8) a b c d ∧ rwWhy (S (H ++ P ++ R)) = 0 ∧ rwOut (S (H ++ P ++ R)) a b c d = S (G ++ Q) ∧ G.length = H.length ∧ Q.length = P.length ∧ at_ G 8 = at_ H 8 - 1 ∧ at_ G 9 = at_ H 9 ∧
      loadWhy (at_ G 9) (S Q) = 0 ∧ loadSeen (hdL G) (S Q) = seenTo (loadSeen (hdL H) (S P)) a b c d ∧ (G.drop 12).take 8 = ipsOf a c := by
  obtain ⟨c1, c2, c3, c4, c5, c6⟩ := change w hw (by omega) ha hb hc hd
  obtain ⟨e1, e2, e3⟩ := seen_whole R w
  have hy : rwWhy (S (H ++ P ++ R)) = 0 := by
    unfold rwWhy
    rw [e1, if_neg (by omega), e2 hw, if_neg]
    rw [(load_ends _ _).2.2]
    show ¬ at_ H 8 < 2
    omega
  refine ⟨_, _, c1, rfl, rfl, hy, ?_, headNew_length a c w.h20, c2, c4, c3, by rw [c3]; exact c5, c6, ips_new a c w.h20⟩
  unfold rwOut
  rw [if_pos hy, e3, e2 hw]
end Go.Proofs.YtjeaknipmdfkdaaGreatDoor
end

section
/- Errors, and what they are about: plain laws of their sizes. No walk. -/
set_option linter.unusedVariables false
set_option linter.unusedSimpArgs false
namespace Go.Proofs.YtjeaknipmdfkdaaGreatDoor
open Go.RowKit

theorem seen_err {h : Hd} {l : ByteArray} (hw : loadWhy h.p l = 0) (hk : (loadSeen h l).k = 3) : h.p = 1 ∧ 8 ≤ l.size ∧ qErr (msgOf l) = true ∧ qIs (msgOf l) = false := by
  have p6 : h.p ≠ 6 := fun e => by unfold loadSeen at hk; rw [if_pos e] at hk; simp only at hk; split at hk <;> omega
  have p17 : h.p ≠ 17 := fun e => by unfold loadSeen at hk; rw [if_neg p6, if_pos e] at hk; simp only at hk; omega
  unfold loadWhy at hw
  rw [if_neg p6, if_neg p17] at hw
  by_cases p1 : h.p = 1
  · rw [if_pos p1] at hw
    by_cases h8 : l.size < 8
    · rw [if_pos h8] at hw; omega
    rw [if_neg h8] at hw
    unfold loadSeen at hk
    rw [if_neg p6, if_neg p17] at hk
    have hq : qIs (msgOf l) = false := by
      cases hq : qIs (msgOf l) with
      | false => rfl
      | true =>
        rw [hq] at hk
        split at hk
        · simp only at hk; omega
        · simp only [if_true] at hk; omega
    refine ⟨p1, by omega, ?_, hq⟩
    by_cases h : qIs (msgOf l) = true ∨ qErr (msgOf l) = true
    · rcases h with h | h
      · rw [hq] at h; cases h
      · exact h
    · rw [if_neg h] at hw; omega
  · rw [if_neg p1] at hw; omega
/-- an error, taken apart -/
theorem err_whole {s : ByteArray} (h : seenWhy s = 0) (hk : (seenOf s).k = 3) : ∃ H P R, s = S (H ++ P ++ R) ∧ Whole H P ∧ loadWhy (at_ H 9) (S P) = 0 ∧ seenOf s = loadSeen (hdL H) (S P) ∧ (seenOf s).l = at_ H 8 ∧ ipRest s = S P ∧ at_ H 9 = 1 ∧ 8 ≤ P.length ∧ qErr (msgOf (S P)) = true ∧ qIs (msgOf (S P)) = false := by
  obtain ⟨H, P, R, rfl, w, h1, h2, h3⟩ := taken_whole h
  obtain ⟨_, _, e3⟩ := whole_to R w
  rw [h2] at hk
  obtain ⟨q1, q2, q3, q4⟩ := seen_err (h := hdL H) (l := S P) h1 hk
  exact ⟨H, P, R, rfl, w, h1, h2, h3, e3, q1, by rwa [S_size] at q2, q3, q4⟩
theorem ems_seen {s : ByteArray} (h : emsWhy s = 0) : seenWhy s = 0 ∧ (seenOf s).k = 3 ∧ emWhy (L (emData s)) = 0 := by
  unfold emsWhy at h
  by_cases h1 : seenWhy s = 0
  · rw [if_neg (by omega)] at h
    by_cases h2 : (seenOf s).k = 3
    · rw [if_neg (by omega)] at h
      exact ⟨h1, h2, h⟩
    · rw [if_pos h2] at h; omega
  · rw [if_pos h1] at h; omega
theorem emData_of {s : ByteArray} {P : List UInt8} (h : ipRest s = S P) : emData s = S (P.drop 8) ∧ (msgOf (ipRest s)).n = be16 P 2 := by
  unfold emData
  rw [h]
  refine ⟨?_, rfl⟩
  show (S P).extract 8 (S P).size = _
  exact eq_S (by rw [L_from, L_S])
theorem emWhy_parts {d : List UInt8} (h : emWhy d = 0) : 20 ≤ emAt d ∧ emAt d ≤ 60 ∧ emAt d + 8 ≤ d.length ∧ at_ d 0 / 16 = 4 ∧ be16 d 6 % 8192 = 0 ∧ (at_ d 9 = 6 ∨ at_ d 9 = 17 ∨ (at_ d 9 = 1 ∧ qIs (emMsg d) = true)) := by
  have hb := at_bd d 0
  have he : ((emAt d : Nat) : Int) = emEnd d := by unfold emAt emEnd; omega
  have he2 : emEnd d ≤ 60 := by unfold emEnd; omega
  unfold emWhy at h
  by_cases h1 : (d.length : Int) < 20 ∨ at_ d 0 / 16 ≠ 4
  · rw [if_pos h1] at h; omega
  rw [if_neg h1] at h
  by_cases h2 : emEnd d < 20 ∨ (d.length : Int) - 8 < emEnd d ∨ be16 d 6 % 8192 ≠ 0
  · rw [if_pos h2] at h; omega
  rw [if_neg h2] at h
  refine ⟨by omega, by omega, by omega, by omega, by omega, ?_⟩
  by_cases h3 : at_ d 9 = 6 ∨ at_ d 9 = 17
  · omega
  rw [if_neg h3] at h
  by_cases h4 : at_ d 9 = 1
  · rw [if_neg (by omega)] at h
    cases hq : qIs (emMsg d) with
    | true => exact Or.inr (Or.inr ⟨h4, rfl⟩)
    | false => rw [hq, if_neg (by decide)] at h; omega
  · rw [if_pos h4] at h; omega
theorem emTup_ok (d : List UInt8) : (emTup d).Ok := by
  have h9 := at_bd d 9
  have z : (0 : Int) ≤ 0 ∧ (0 : Int) ≤ 65535 := by decide
  unfold emTup
  split
  · exact ⟨h9, be32_bd _ _, be16_bd _ _, be32_bd _ _, be16_bd _ _⟩
  · split
    · exact ⟨h9, be32_bd _ _, be16_bd _ _, be32_bd _ _, z⟩
    · exact ⟨h9, be32_bd _ _, z, be32_bd _ _, be16_bd _ _⟩
theorem emTup_p (d : List UInt8) : (emTup d).p = at_ d 9 := by unfold emTup; split; rfl; split <;> rfl
theorem emNew_len {d : List UInt8} (h : emWhy d = 0) (a b c dd : Int) : (emNew d a b c dd).length = d.length := by
  obtain ⟨h1, h2, h3, _⟩ := emWhy_parts h
  exact emCh_len h3 (by omega)
/-- how long the changed error is -/
theorem tr_size {s : ByteArray} {a b c d : Int} (h : trWhy s = 0) (ha : 0 ≤ a ∧ a ≤ 4294967295) (hb : 0 ≤ b ∧ b ≤ 65535) (hc : 0 ≤ c ∧ c ≤ 4294967295) (hd : 0 ≤ d ∧ d ≤ 65535) :
    ∃ k : Nat, ((k : Nat) : Int) = at_ (L s) 0 % 16 * 4 ∧ 20 ≤ k ∧ k ≤ 60 ∧ (rwOut s a b c d).size = k + 8 + (emData s).size ∧ (rwOut s a b c d).size ≤ 2048 ∧ 1 ≤ s.size := by
  have hes : emsWhy s = 0 := by
    by_cases h1 : emsWhy s = 0
    · exact h1
    · unfold trWhy at h; rw [if_pos h1] at h; exact h
  have hrw : rwWhy s = 0 := by unfold trWhy at h; rw [if_neg (by omega)] at h; exact h
  obtain ⟨e1, e2, e3⟩ := ems_seen hes
  obtain ⟨H, P, R, hs, w, h1, h2, h3, h4, h5, h6, h7, h8⟩ := err_whole e1 e2
  have hl : 2 ≤ at_ H 8 := by
    unfold rwWhy at hrw
    rw [if_neg (by omega)] at hrw
    by_cases hz : (seenOf s).l < 2
    · rw [if_pos hz] at hrw; omega
    · omega
  subst hs
  obtain ⟨G, Q, _, _, _, _, ho, hg, hq, _⟩ := out_whole R w h1 hl ha hb hc hd
  have h60 := w.h60
  have h20 := w.h20
  have hbig := w.big
  have hown := w.own
  refine ⟨H.length, ?_, h20, h60, ?_, ?_, ?_⟩
  · rw [← hown, L_S, List.append_assoc]
    unfold ipOwn
    rw [at_left (by omega)]
  · rw [ho, S_size, (emData_of h4).1, S_size, List.length_append, List.length_drop, hg, hq]; omega
  · rw [ho, S_size, List.length_append, hg, hq]; exact hbig
  · rw [S_size]; simp; omega
end Go.Proofs.YtjeaknipmdfkdaaGreatDoor
end
