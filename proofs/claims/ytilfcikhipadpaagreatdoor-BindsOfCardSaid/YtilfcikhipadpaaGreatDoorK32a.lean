/- Several texts of this claim, one behind the other. -/
import Derived.Test.YtilfcikhipadpaaGreatDoorK31a

section
/- What a packet carries, changed: plain. No walk. -/
set_option linter.unusedVariables false
namespace Go.Proofs.YtilfcikhipadpaaGreatDoor
open Go.RowKit

theorem pw_len (b d : Int) : (putW [b, d]).length = 4 := rfl

/-! ### a flow -/
section
variable {l ips : List UInt8} {a b c d : Int} {k : Nat}
theorem flow_len (h : k + 2 ≤ l.length) (h4 : 4 ≤ l.length) : (flowNew l ips a b c d k).length = l.length := by
  unfold flowNew
  rw [lay_length (by simp [pw_len]; omega)]
  simp [pw_len]; omega
theorem flow_at (h : k + 2 ≤ l.length) (h4 : 4 ≤ l.length) {i : Nat} (hi : 4 ≤ i) (hk : i < k ∨ k + 2 ≤ i) : at_ (flowNew l ips a b c d k) i = at_ l i := by
  unfold flowNew
  rw [at_lay (by simp [pw_len]; omega) hk, at_right (by simp [pw_len]; omega), at_drop, pw_len]
  congr 1; omega
theorem flow_src (h : k + 2 ≤ l.length) (h4 : 4 ≤ k) (hb : 0 ≤ b ∧ b ≤ 65535) (hd : 0 ≤ d ∧ d ≤ 65535) : be16 (flowNew l ips a b c d k) 0 = b ∧ be16 (flowNew l ips a b c d k) 2 = d := by
  have hx : ∀ x ∈ [b, d], 0 ≤ x ∧ x ≤ 65535 := by intro x hx; simp at hx; rcases hx with rfl | rfl <;> assumption
  unfold flowNew
  constructor
  · rw [lay_other (by simp [pw_len]; omega) (by omega)]
    exact be16_putW hx (l.drop 4) (k := 0) (by simp)
  · rw [lay_other (by simp [pw_len]; omega) (by omega)]
    exact be16_putW hx (l.drop 4) (k := 1) (by simp)
/-- the words of two ends -/
def ends (ips ports : List UInt8) : Int := tot (words (ips ++ ports))
end

/-! ### a query -/
theorem query_len {l : List UInt8} {id : Int} (h : 8 ≤ l.length) : (queryOf l id).length = l.length := by
  unfold queryOf; rw [lay_length (by rw [lay_length (by omega)]; omega), lay_length (by omega)]
theorem query_at {l : List UInt8} {id : Int} (h : 8 ≤ l.length) {i : Nat} (hi : i < 2 ∨ 6 ≤ i) : at_ (queryOf l id) i = at_ l i := by
  unfold queryOf; rw [at_lay (by rw [lay_length (by omega)]; omega) (by omega), at_lay (by omega) (by omega)]
theorem query_id {l : List UInt8} {id : Int} (h : 8 ≤ l.length) (hi : 0 ≤ id ∧ id ≤ 65535) : be16 (queryOf l id) 4 = id := by
  unfold queryOf; rw [lay_other (by rw [lay_length (by omega)]; omega) (by omega), lay_at (by omega) hi]
/-! ### what is seen -/
theorem load_cases {p : Int} {P : List UInt8} (hw : loadWhy p (S P) = 0) : (p = 6 ∧ tcpIs (S P) = true) ∨ (p = 17 ∧ udpIs (S P) = true) ∨ (p = 1 ∧ 8 ≤ P.length ∧ (qIs (msgOf (S P)) = true ∨ qErr (msgOf (S P)) = true)) := by
  unfold loadWhy at hw
  by_cases h6 : p = 6
  · rw [if_pos h6] at hw
    left; refine ⟨h6, ?_⟩
    by_cases h : tcpIs (S P) = true
    · exact h
    · rw [if_neg h] at hw; omega
  rw [if_neg h6] at hw
  by_cases h17 : p = 17
  · rw [if_pos h17] at hw
    right; left; refine ⟨h17, ?_⟩
    by_cases h : udpIs (S P) = true
    · exact h
    · rw [if_neg h] at hw; omega
  rw [if_neg h17] at hw
  by_cases h1 : p = 1
  · rw [if_pos h1] at hw
    right; right
    by_cases h8 : (S P).size < 8
    · rw [if_pos h8] at hw; omega
    rw [if_neg h8] at hw
    rw [S_size] at h8
    refine ⟨h1, by omega, ?_⟩
    by_cases h : qIs (msgOf (S P)) = true ∨ qErr (msgOf (S P)) = true
    · exact h
    · rw [if_neg h] at hw; omega
  · rw [if_neg h1] at hw; omega
theorem tcpIs_len {P : List UInt8} (h : tcpIs (S P) = true) : 20 ≤ P.length := by
  unfold tcpIs at h; rw [S_size] at h; simp at h; omega
theorem udpIs_len {P : List UInt8} (h : udpIs (S P) = true) : 8 ≤ P.length := by
  unfold udpIs at h; rw [S_size] at h; simp at h; omega
theorem tcpIs_of {P Q : List UInt8} (h : tcpIs (S P) = true) (hz : Q.length = P.length) (h12 : at_ Q 12 = at_ P 12) : tcpIs (S Q) = true := by
  unfold tcpIs tcpOwn at *
  rw [S_size, L_S] at *
  rw [hz, h12]; exact h
theorem udpIs_of {P Q : List UInt8} (h : udpIs (S P) = true) (hz : Q.length = P.length) (h4 : be16 Q 4 = be16 P 4) : udpIs (S Q) = true := by
  have h8 := udpIs_len h
  have e : get16 Q 4 = get16 P 4 := by
    show get16 Q ((4 : Nat) : Int) = get16 P ((4 : Nat) : Int)
    rw [get16_nat (by omega), get16_nat (by omega), h4]
  unfold udpIs at *
  rw [S_size, L_S] at *
  rw [hz, e]; exact h
theorem msg_t (P : List UInt8) : (msgOf (S P)).t = at_ P 0 := rfl
theorem msg_c (P : List UInt8) : (msgOf (S P)).c = at_ P 1 := rfl
theorem msg_id {P : List UInt8} (h : 8 ≤ P.length) : get16 (L (msgOf (S P)).r) 0 = be16 P 4 := by
  show get16 (L ((S P).extract 4 8)) ((0 : Nat) : Int) = _
  rw [get16_nat (by rw [L_length, ByteArray.size_extract, S_size]; omega), L_extract, L_S, be16_take (by omega), be16_drop]
theorem asks_of {P Q : List UInt8} (h0 : at_ Q 0 = at_ P 0) (h1 : at_ Q 1 = at_ P 1) : qAsk (msgOf (S Q)) = qAsk (msgOf (S P)) ∧ qIs (msgOf (S Q)) = qIs (msgOf (S P)) ∧ qErr (msgOf (S Q)) = qErr (msgOf (S P)) := by
  unfold qAsk qIs qErr
  simp only [msg_t, msg_c, h0, h1]
  exact ⟨rfl, rfl, rfl⟩
theorem seen_tcp {h : Hd} {P : List UInt8} (hp : h.p = 6) (hz : 20 ≤ P.length) : loadSeen h (S P) = ⟨⟨6, h.s, be16 P 0, h.d, be16 P 2⟩, if bits .and .u8 (at_ P 13) 23 = 2 then 1 else 2, at_ P 13, false, h.l⟩ := by
  have e0 : (segOf (S P)).s = be16 P 0 := by show get16 P ((0 : Nat) : Int) = _; exact get16_nat (by omega)
  have e2 : (segOf (S P)).d = be16 P 2 := by show get16 P ((2 : Nat) : Int) = _; exact get16_nat (by omega)
  unfold loadSeen
  rw [if_pos hp, e0, e2]; rfl
theorem seen_udp {h : Hd} {P : List UInt8} (hp : h.p = 17) (hz : 8 ≤ P.length) : loadSeen h (S P) = ⟨⟨17, h.s, be16 P 0, h.d, be16 P 2⟩, 2, 0, false, h.l⟩ := by
  have e0 : get16 (L (S P)) 0 = be16 P 0 := by show get16 P ((0 : Nat) : Int) = _; exact get16_nat (by omega)
  have e2 : get16 (L (S P)) 2 = be16 P 2 := by show get16 P ((2 : Nat) : Int) = _; exact get16_nat (by omega)
  unfold loadSeen
  rw [if_neg (by omega), if_pos hp, e0, e2]
theorem seen_msg {h : Hd} {P : List UInt8} (hp : h.p = 1) (hz : 8 ≤ P.length) : loadSeen h (S P) = if qAsk (msgOf (S P)) = true then ⟨⟨1, h.s, be16 P 4, h.d, 0⟩, 2, 0, true, h.l⟩ else if qIs (msgOf (S P)) = true then ⟨⟨1, h.s, 0, h.d, be16 P 4⟩, 2, 0, false, h.l⟩ else ⟨⟨1, h.s, 0, h.d, 0⟩, 3, 0, false, h.l⟩ := by
  unfold loadSeen
  rw [if_neg (by omega), if_neg (by omega), msg_id hz]
/-- what is seen of a packet that was changed -/
def seenTo (x : Seen) (a b c d : Int) : Seen :=
  if x.k = 3 then ⟨⟨x.t.p, a, x.t.b, c, x.t.d⟩, x.k, x.f, x.q, x.l - 1⟩
  else if x.t.p ≠ 1 then ⟨⟨x.t.p, a, b, c, d⟩, x.k, x.f, x.q, x.l - 1⟩
  else if x.q = true then ⟨⟨x.t.p, a, b, c, x.t.d⟩, x.k, x.f, x.q, x.l - 1⟩
  else ⟨⟨x.t.p, a, x.t.b, c, d⟩, x.k, x.f, x.q, x.l - 1⟩
theorem load_change {h g : Hd} {P ips : List UInt8} {a b c d : Int} (hw : loadWhy h.p (S P) = 0) (hb : 0 ≤ b ∧ b ≤ 65535) (hd : 0 ≤ d ∧ d ≤ 65535) (gp : g.p = h.p) (gl : g.l = h.l - 1) (gs : g.s = a) (gd : g.d = c) :
    (loadNew (loadSeen h (S P)) P ips a b c d).length = P.length ∧ loadWhy h.p (S (loadNew (loadSeen h (S P)) P ips a b c d)) = 0 ∧ loadSeen g (S (loadNew (loadSeen h (S P)) P ips a b c d)) = seenTo (loadSeen h (S P)) a b c d := by
  rcases load_cases hw with ⟨hp, ht⟩ | ⟨hp, ht⟩ | ⟨hp, h8, ht⟩
  · have hz := tcpIs_len ht
    have el : loadNew (loadSeen h (S P)) P ips a b c d = flowNew P ips a b c d 16 := by
      rw [seen_tcp hp hz]; unfold loadNew; rw [if_pos rfl]
    rw [el]
    have ez : (flowNew P ips a b c d 16).length = P.length := flow_len (by omega) (by omega)
    have e12 : at_ (flowNew P ips a b c d 16) 12 = at_ P 12 := flow_at (by omega) (by omega) (by omega) (by omega)
    have e13 : at_ (flowNew P ips a b c d 16) 13 = at_ P 13 := flow_at (by omega) (by omega) (by omega) (by omega)
    obtain ⟨es, ed⟩ := flow_src (l := P) (ips := ips) (a := a) (c := c) (k := 16) (by omega) (by omega) hb hd
    refine ⟨ez, ?_, ?_⟩
    · unfold loadWhy; rw [if_pos hp, if_pos (tcpIs_of ht ez e12)]
    · rw [seen_tcp hp hz, seen_tcp (by rw [gp, hp]) (by rw [ez]; exact hz), es, ed, e13, gs, gd, gl]
      have hk : (if bits .and .u8 (at_ P 13) 23 = 2 then (1 : Int) else 2) ≠ 3 := by split <;> decide
      generalize (if bits .and .u8 (at_ P 13) 23 = 2 then (1 : Int) else 2) = k at *
      unfold seenTo
      rw [if_neg hk, if_pos (by dsimp only; decide)]
  · have hz := udpIs_len ht
    have el : loadNew (loadSeen h (S P)) P ips a b c d = flowNew P ips a b c d 6 := by
      rw [seen_udp hp hz]; unfold loadNew; rw [if_neg (by dsimp only; decide), if_pos rfl]
    rw [el]
    have ez : (flowNew P ips a b c d 6).length = P.length := flow_len (by omega) (by omega)
    have e4 : be16 (flowNew P ips a b c d 6) 4 = be16 P 4 := by unfold be16; rw [flow_at (by omega) (by omega) (by omega) (by omega), flow_at (by omega) (by omega) (by omega) (by omega)]
    obtain ⟨es, ed⟩ := flow_src (l := P) (ips := ips) (a := a) (c := c) (k := 6) (by omega) (by omega) hb hd
    refine ⟨ez, ?_, ?_⟩
    · unfold loadWhy; rw [if_neg (by omega), if_pos hp, if_pos (udpIs_of ht ez e4)]
    · rw [seen_udp hp hz, seen_udp (by rw [gp, hp]) (by rw [ez]; exact hz), es, ed, gs, gd, gl]
      unfold seenTo
      rw [if_neg (by dsimp only; decide), if_pos (by dsimp only; decide)]
  · have hi : ∀ Q : List UInt8, Q.length = P.length → (qIs (msgOf (S Q)) = true ∨ qErr (msgOf (S Q)) = true) → loadWhy h.p (S Q) = 0 := by
      intro Q hz hq
      unfold loadWhy
      rw [if_neg (by omega), if_neg (by omega), if_pos hp, if_neg (by rw [S_size]; omega), if_pos hq]
    by_cases ha : qAsk (msgOf (S P)) = true
    · have ex : loadSeen h (S P) = ⟨⟨1, h.s, be16 P 4, h.d, 0⟩, 2, 0, true, h.l⟩ := by rw [seen_msg hp h8, if_pos ha]
      have el : loadNew (loadSeen h (S P)) P ips a b c d = queryOf P b := by
        rw [ex]; unfold loadNew; rw [if_neg (by dsimp only; decide), if_neg (by dsimp only; decide), if_neg (by dsimp only; decide), if_pos rfl]
      rw [el]
      have ez := query_len (id := b) h8
      obtain ⟨q1, q2, q3⟩ := asks_of (query_at (id := b) h8 (i := 0) (by omega)) (query_at (id := b) h8 (i := 1) (by omega))
      refine ⟨ez, hi _ ez (by rw [q2, q3]; exact ht), ?_⟩
      rw [ex, seen_msg (by rw [gp, hp]) (by rw [ez]; exact h8), if_pos (by rw [q1]; exact ha), query_id h8 hb, gs, gd, gl]
      unfold seenTo
      rw [if_neg (by dsimp only; decide), if_neg (by dsimp only; decide), if_pos rfl]
    · by_cases hq : qIs (msgOf (S P)) = true
      · have ex : loadSeen h (S P) = ⟨⟨1, h.s, 0, h.d, be16 P 4⟩, 2, 0, false, h.l⟩ := by rw [seen_msg hp h8, if_neg ha, if_pos hq]
        have el : loadNew (loadSeen h (S P)) P ips a b c d = queryOf P d := by
          rw [ex]; unfold loadNew; rw [if_neg (by dsimp only; decide), if_neg (by dsimp only; decide), if_neg (by dsimp only; decide), if_neg (by dsimp only; decide)]
        rw [el]
        have ez := query_len (id := d) h8
        obtain ⟨q1, q2, q3⟩ := asks_of (query_at (id := d) h8 (i := 0) (by omega)) (query_at (id := d) h8 (i := 1) (by omega))
        refine ⟨ez, hi _ ez (by rw [q2, q3]; exact ht), ?_⟩
        rw [ex, seen_msg (by rw [gp, hp]) (by rw [ez]; exact h8), if_neg (by rw [q1]; exact ha), if_pos (by rw [q2]; exact hq), query_id h8 hd, gs, gd, gl]
        unfold seenTo
        rw [if_neg (by dsimp only; decide), if_neg (by dsimp only; decide), if_neg (by dsimp only; decide)]
      · have ex : loadSeen h (S P) = ⟨⟨1, h.s, 0, h.d, 0⟩, 3, 0, false, h.l⟩ := by rw [seen_msg hp h8, if_neg ha, if_neg hq]
        have el : loadNew (loadSeen h (S P)) P ips a b c d = P := by
          rw [ex]; unfold loadNew; rw [if_neg (by dsimp only; decide), if_neg (by dsimp only; decide), if_pos rfl]
        rw [el]
        refine ⟨rfl, hw, ?_⟩
        rw [ex, seen_msg (by rw [gp, hp]) h8, if_neg ha, if_neg hq, gs, gd, gl]
        unfold seenTo
        rw [if_pos rfl]

/-! ### packets -/
theorem seen_whole {H P : List UInt8} (R : List UInt8) (w : Whole H P) :
    seenWhy (S (H ++ P ++ R)) = loadWhy (at_ H 9) (S P) ∧ (loadWhy (at_ H 9) (S P) = 0 → seenOf (S (H ++ P ++ R)) = loadSeen (hdL H) (S P)) ∧
    (∀ a b c d, rwNew (S (H ++ P ++ R)) a b c d = headNew H a c ++ loadNew (seenOf (S (H ++ P ++ R))) P ((H.drop 12).take 8) a b c d) := by
  obtain ⟨e1, e2, e3⟩ := whole_to R w
  have hy : seenWhy (S (H ++ P ++ R)) = loadWhy (at_ H 9) (S P) := by
    unfold seenWhy; rw [if_pos e1, e2, e3]; rfl
  refine ⟨hy, ?_, ?_⟩
  · intro h
    unfold seenOf
    rw [if_pos (by rw [hy]; exact h), e2, e3]
  · intro a b c d
    have h20 := w.h20
    have eo : ipOwn (L (S (H ++ P ++ R))) = H.length := by rw [L_S, List.append_assoc, own_app (by omega), w.own]
    have et : (L (S (H ++ P ++ R))).take (ipOwn (L (S (H ++ P ++ R)))).toNat = H := by rw [eo, L_S, Int.toNat_natCast, List.append_assoc, List.take_left]
    have ei : ((L (S (H ++ P ++ R))).drop 12).take 8 = (H.drop 12).take 8 := by
      rw [L_S, List.append_assoc, List.drop_append_of_le_length (by omega), List.take_append_of_le_length (by simp; omega)]
    unfold rwNew
    rw [et, ei, e3, L_S]
/-- a packet that may be changed, and what it is then -/
theorem change {H P : List UInt8} {a b c d : Int} (w : Whole H P) (hw : loadWhy (at_ H 9) (S P) = 0) (h8 : 1 ≤ at_ H 8) (ha : 0 ≤ a ∧ a ≤ 4294967295) (hb : 0 ≤ b ∧ b ≤ 65535) (hc : 0 ≤ c ∧ c ≤ 4294967295) (hd : 0 ≤ d ∧ d ≤ 65535) :
    Whole (headNew H a c) (loadNew (loadSeen (hdL H) (S P)) P ((H.drop 12).take 8) a b c d) ∧ (loadNew (loadSeen (hdL H) (S P)) P ((H.drop 12).take 8) a b c d).length = P.length ∧
    at_ (headNew H a c) 9 = at_ H 9 ∧ at_ (headNew H a c) 8 = at_ H 8 - 1 ∧ loadWhy (at_ H 9) (S (loadNew (loadSeen (hdL H) (S P)) P ((H.drop 12).take 8) a b c d)) = 0 ∧
    loadSeen (hdL (headNew H a c)) (S (loadNew (loadSeen (hdL H) (S P)) P ((H.drop 12).take 8) a b c d)) = seenTo (loadSeen (hdL H) (S P)) a b c d := by
  obtain ⟨_, w8, w9, w12, w16⟩ := head_whole (Q := P) w ha hc h8 rfl
  obtain ⟨c1, c2, c3⟩ := load_change (h := hdL H) (g := hdL (headNew H a c)) (P := P) (ips := (H.drop 12).take 8) (a := a) (c := c) hw hb hd w9 w8 w12 w16
  exact ⟨(head_whole w ha hc h8 c1).1, c1, w9, w8, c2, c3⟩
end Go.Proofs.YtilfcikhipadpaaGreatDoor
end

section
/- Packets, changed twice, changed back: plain. No walk. -/
set_option linter.unusedVariables false
namespace Go.Proofs.YtilfcikhipadpaaGreatDoor
open Go.RowKit

/-- a packet with 0 for its TTL, and its header's sum -/
def zeroH (l : List UInt8) : List UInt8 := ((l.set 8 0).set 10 0).set 11 0
def fix0 (n : Int) : Int := if n = 65535 then 0 else n
/-- so, and with 0 for a sum of 65535 -/
def plainL (l : List UInt8) (k : Nat) : List UInt8 := if 0 < k ∧ k + 1 < l.length ∧ at_ (zeroH l) k = 255 ∧ at_ (zeroH l) (k + 1) = 255 then ((zeroH l).set k 0).set (k + 1) 0 else zeroH l
def sumAtL (x : Seen) (own : Nat) : Nat := if x.t.p = 6 then own + 16 else if x.t.p = 17 then own + 6 else if x.k = 3 then 0 else own + 2
theorem zero_len (l : List UInt8) : (zeroH l).length = l.length := by simp [zeroH]
theorem zero_app {H P : List UInt8} (h : 20 ≤ H.length) : zeroH (H ++ P) = zeroH H ++ P := by
  unfold zeroH; rw [List.set_append_left _ _ (by omega), List.set_append_left _ _ (by simp; omega), List.set_append_left _ _ (by simp; omega)]
theorem plain_0 {H P : List UInt8} (h : 20 ≤ H.length) : plainL (H ++ P) 0 = zeroH H ++ P := by
  unfold plainL; rw [if_neg (by omega), zero_app h]
theorem plain_is {H P : List UInt8} {j k : Nat} (h : 20 ≤ H.length) (hj : j + 2 ≤ P.length) (hk : k = H.length + j) : plainL (H ++ P) k = zeroH H ++ lay P j (fix0 (be16 P j)) := by
  subst hk
  have hz := zero_len H
  have b0 := at_bd P j
  have b1 := at_bd P (j + 1)
  have eb : be16 P j = at_ P j * 256 + at_ P (j + 1) := rfl
  unfold plainL
  rw [zero_app h, at_right (by omega), at_right (by omega), hz, show H.length + j - H.length = j from by omega, show H.length + j + 1 - H.length = j + 1 from by omega]
  unfold fix0
  by_cases e : be16 P j = 65535
  · rw [if_pos (by simp; omega), if_pos e, List.set_append_right _ _ (by omega), List.set_append_right _ _ (by omega), hz, show H.length + j - H.length = j from by omega, show H.length + j + 1 - H.length = j + 1 from by omega, lay_zero hj]
  · rw [if_neg (by omega), if_neg e, lay_self hj]
section
variable {P ips : List UInt8} {a b c d a2 b2 c2 d2 : Int} {k : Nat}
end
/-- two texts that are alike but for what a sum of 0 or 65535 is -/
def Like (x : Seen) (n : Nat) (P Q : List UInt8) : Prop :=
  P.length = n ∧ Q.length = n ∧ ((∀ own, sumAtL x own = 0) ∧ P = Q ∨ ∃ j X m m', (∀ own, sumAtL x own = own + j) ∧ X.length = n ∧ j + 2 ≤ n ∧ P = lay X j m ∧ Q = lay X j m' ∧ (0 ≤ m ∧ m ≤ 65535) ∧ (0 ≤ m' ∧ m' ≤ 65535) ∧ fix0 m = fix0 m')
theorem Like.plain {x : Seen} {n : Nat} {P Q H G : List UInt8} (h : Like x n P Q) (h20 : 20 ≤ H.length) (hz : G.length = H.length) (he : zeroH H = zeroH G) : plainL (H ++ P) (sumAtL x H.length) = plainL (G ++ Q) (sumAtL x G.length) := by
  obtain ⟨z1, z2, ⟨h0, rfl⟩ | ⟨j, X, m, m', hs, hx, hj, rfl, rfl, hm, hm', e⟩⟩ := h
  · rw [h0, h0, plain_0 h20, plain_0 (by omega), he]
  · rw [plain_is (j := j) h20 (by omega) (hs _), plain_is (j := j) (by omega) (by omega) (hs _), he, lay_at (by omega) hm, lay_at (by omega) hm', e, lay_lay (by omega), lay_lay (by omega)]
end Go.Proofs.YtilfcikhipadpaaGreatDoor
end

section
/- Packets, changed: what the statements say of them, plain. No walk. -/
set_option linter.unusedVariables false
namespace Go.Proofs.YtilfcikhipadpaaGreatDoor
open Go.RowKit

theorem load_ends (h : Hd) (l : ByteArray) : (loadSeen h l).t.a = h.s ∧ (loadSeen h l).t.c = h.d ∧ (loadSeen h l).l = h.l := by
  unfold loadSeen
  split
  · exact ⟨rfl, rfl, rfl⟩
  split
  · exact ⟨rfl, rfl, rfl⟩
  split
  · exact ⟨rfl, rfl, rfl⟩
  split <;> exact ⟨rfl, rfl, rfl⟩
theorem taken_whole {s : ByteArray} (h : seenWhy s = 0) : ∃ H P R, s = S (H ++ P ++ R) ∧ Whole H P ∧ loadWhy (at_ H 9) (S P) = 0 ∧ seenOf s = loadSeen (hdL H) (S P) ∧ (seenOf s).l = at_ H 8 := by
  have hip : ipWhy s = 0 := by
    unfold seenWhy at h
    by_cases hi : ipWhy s = 0
    · exact hi
    · rw [if_neg hi] at h; exact h
  obtain ⟨H, P, R, rfl, w⟩ := whole_of hip
  obtain ⟨e1, e2, _⟩ := seen_whole R w
  rw [e1] at h
  exact ⟨H, P, R, rfl, w, h, e2 h, by rw [e2 h]; exact (load_ends _ _).2.2⟩
end Go.Proofs.YtilfcikhipadpaaGreatDoor
end

section
/- Errors, and what they are about: plain laws of their sizes. No walk. -/
set_option linter.unusedVariables false
set_option linter.unusedSimpArgs false
namespace Go.Proofs.YtilfcikhipadpaaGreatDoor
open Go.RowKit

theorem seen_err {h : Hd} {l : ByteArray} (hw : loadWhy h.p l = 0) (hk : (loadSeen h l).k = 3) : h.p = 1 ∧ 8 ≤ l.size ∧ qErr (msgOf l) = true ∧ qIs (msgOf l) = false := by
  have p6 : h.p ≠ 6 := fun e => by unfold loadSeen at hk; rw [if_pos e] at hk; simp only at hk; split at hk <;> omega
  have p17 : h.p ≠ 17 := fun e => by unfold loadSeen at hk; rw [if_neg p6, if_pos e] at hk; simp only at hk; omega
  unfold loadWhy at hw
  rw [if_neg p6, if_neg p17] at hw
  by_cases p1 : h.p = 1
  · rw [if_pos p1] at hw
    by_cases h8 : l.size < 8
    · rw [if_pos h8] at hw; omega
    rw [if_neg h8] at hw
    unfold loadSeen at hk
    rw [if_neg p6, if_neg p17] at hk
    have hq : qIs (msgOf l) = false := by
      cases hq : qIs (msgOf l) with
      | false => rfl
      | true =>
        rw [hq] at hk
        split at hk
        · simp only at hk; omega
        · simp only [if_true] at hk; omega
    refine ⟨p1, by omega, ?_, hq⟩
    by_cases h : qIs (msgOf l) = true ∨ qErr (msgOf l) = true
    · rcases h with h | h
      · rw [hq] at h; cases h
      · exact h
    · rw [if_neg h] at hw; omega
  · rw [if_neg p1] at hw; omega
/-- an error, taken apart -/
theorem err_whole {s : ByteArray} (h : seenWhy s = 0) (hk : (seenOf s).k = 3) : ∃ H P R, s = S (H ++ P ++ R) ∧ Whole H P ∧ loadWhy (at_ H 9) (S P) = 0 ∧ seenOf s = loadSeen (hdL H) (S P) ∧ (seenOf s).l = at_ H 8 ∧ ipRest s = S P ∧ at_ H 9 = 1 ∧ 8 ≤ P.length ∧ qErr (msgOf (S P)) = true ∧ qIs (msgOf (S P)) = false := by
  obtain ⟨H, P, R, rfl, w, h1, h2, h3⟩ := taken_whole h
  obtain ⟨_, _, e3⟩ := whole_to R w
  rw [h2] at hk
  obtain ⟨q1, q2, q3, q4⟩ := seen_err (h := hdL H) (l := S P) h1 hk
  exact ⟨H, P, R, rfl, w, h1, h2, h3, e3, q1, by rwa [S_size] at q2, q3, q4⟩
theorem emData_of {s : ByteArray} {P : List UInt8} (h : ipRest s = S P) : emData s = S (P.drop 8) ∧ (msgOf (ipRest s)).n = be16 P 2 := by
  unfold emData
  rw [h]
  refine ⟨?_, rfl⟩
  show (S P).extract 8 (S P).size = _
  exact eq_S (by rw [L_from, L_S])
end Go.Proofs.YtilfcikhipadpaaGreatDoor
end
