/- Several texts of this claim, one behind the other. -/
import Derived.Test.YtjeaknipmdfkdaaGreatDoorK19

section
/- What a packet carries, changed: plain. No walk. -/
set_option linter.unusedVariables false
namespace Go.Proofs.YtjeaknipmdfkdaaGreatDoor
open Go.RowKit

theorem pw_len (b d : Int) : (putW [b, d]).length = 4 := rfl

/-! ### a flow -/
section
variable {l ips : List UInt8} {a b c d : Int} {k : Nat}
theorem flow_len (h : k + 2 ≤ l.length) (h4 : 4 ≤ l.length) : (flowNew l ips a b c d k).length = l.length := by
  unfold flowNew
  rw [lay_length (by simp [pw_len]; omega)]
  simp [pw_len]; omega
theorem flow_at (h : k + 2 ≤ l.length) (h4 : 4 ≤ l.length) {i : Nat} (hi : 4 ≤ i) (hk : i < k ∨ k + 2 ≤ i) : at_ (flowNew l ips a b c d k) i = at_ l i := by
  unfold flowNew
  rw [at_lay (by simp [pw_len]; omega) hk, at_right (by simp [pw_len]; omega), at_drop, pw_len]
  congr 1; omega
theorem flow_src (h : k + 2 ≤ l.length) (h4 : 4 ≤ k) (hb : 0 ≤ b ∧ b ≤ 65535) (hd : 0 ≤ d ∧ d ≤ 65535) : be16 (flowNew l ips a b c d k) 0 = b ∧ be16 (flowNew l ips a b c d k) 2 = d := by
  have hx : ∀ x ∈ [b, d], 0 ≤ x ∧ x ≤ 65535 := by intro x hx; simp at hx; rcases hx with rfl | rfl <;> assumption
  unfold flowNew
  constructor
  · rw [lay_other (by simp [pw_len]; omega) (by omega)]
    exact be16_putW hx (l.drop 4) (k := 0) (by simp)
  · rw [lay_other (by simp [pw_len]; omega) (by omega)]
    exact be16_putW hx (l.drop 4) (k := 1) (by simp)
theorem flow_new (h : k + 2 ≤ l.length) (h4 : 4 ≤ k) : be16 (flowNew l ips a b c d k) k = flowFix k (be16 l k) (flowSum l ips a b c d k) := by
  unfold flowNew
  rw [lay_at (by simp [pw_len]; omega) (flowFix_bd (flowSum_bd _ _ _ _ _ _ _))]
theorem flow_take (h : k + 2 ≤ l.length) (h4 : 4 ≤ k) : (flowNew l ips a b c d k).take 4 = putW [b, d] := by
  unfold flowNew lay
  rw [List.append_assoc, List.take_append_of_le_length (by simp [pw_len]; omega), List.take_take, show min 4 k = 4 from by omega, List.take_left' (pw_len b d)]
theorem flow_again {ips2 : List UInt8} {a2 b2 c2 d2 : Int} (h : k + 2 ≤ l.length) (h4 : 4 ≤ k) :
    flowNew (flowNew l ips a b c d k) ips2 a2 b2 c2 d2 k = lay (putW [b2, d2] ++ l.drop 4) k (flowFix k (be16 (flowNew l ips a b c d k) k) (flowSum (flowNew l ips a b c d k) ips2 a2 b2 c2 d2 k)) := by
  have e : (flowNew l ips a b c d k).drop 4 = lay (l.drop 4) (k - 4) (flowFix k (be16 l k) (flowSum l ips a b c d k)) := by
    show (lay (putW [b, d] ++ l.drop 4) k _).drop 4 = _
    rw [lay_dropd (by simp [pw_len]; omega) h4, List.drop_left' (pw_len b d)]
  show lay (putW [b2, d2] ++ (flowNew l ips a b c d k).drop 4) k _ = _
  rw [e, app_lay (k := k) (by rw [pw_len]; omega), lay_lay (by simp [pw_len]; omega)]
/-- the words of two ends -/
def ends (ips ports : List UInt8) : Int := tot (words (ips ++ ports))
theorem flow_mod (h : k + 2 ≤ l.length) (h4 : 4 ≤ k) (hi : ips.length = 8) :
    (0 ≤ flowFix k (be16 l k) (flowSum l ips a b c d k) ∧ flowFix k (be16 l k) (flowSum l ips a b c d k) ≤ 65535) ∧ (k = 6 → (flowFix k (be16 l k) (flowSum l ips a b c d k) = 0 ↔ be16 l k = 0)) ∧
    ((k = 6 → be16 l k ≠ 0) → (flowFix k (be16 l k) (flowSum l ips a b c d k) - (be16 l k + ends ips (l.take 4) - ends (ipsOf a c) (putW [b, d]))) % 65535 = 0) := by
  have hb := flowSum_bd l ips a b c d k
  refine ⟨flowFix_bd hb, ?_, ?_⟩
  · intro hk
    unfold flowFix
    rw [if_pos hk]
    split <;> (try split) <;> omega
  · intro hk
    have hu : (flowSum l ips a b c d k - (be16 l k + ends ips (l.take 4) - ends (ipsOf a c) (putW [b, d]))) % 65535 = 0 :=
      updates_mod (be16_bd _ _) (by simp [pw_len, hi, show (ipsOf a c).length = 8 from rfl]; omega) (by simp [hi]; omega)
    unfold flowFix
    split
    · rename_i h6
      rw [if_neg (hk h6)]
      split <;> omega
    · exact hu
end

/-! ### a query -/
theorem eight {l : List UInt8} (h : 8 ≤ l.length) : ∃ b0 b1 b2 b3 b4 b5 b6 b7 r, l = b0 :: b1 :: b2 :: b3 :: b4 :: b5 :: b6 :: b7 :: r := by
  match l, h with
  | b0 :: b1 :: b2 :: b3 :: b4 :: b5 :: b6 :: b7 :: r, _ => exact ⟨_, _, _, _, _, _, _, _, _, rfl⟩
theorem query_len {l : List UInt8} {id : Int} (h : 8 ≤ l.length) : (queryOf l id).length = l.length := by
  unfold queryOf; rw [lay_length (by rw [lay_length (by omega)]; omega), lay_length (by omega)]
theorem query_at {l : List UInt8} {id : Int} (h : 8 ≤ l.length) {i : Nat} (hi : i < 2 ∨ 6 ≤ i) : at_ (queryOf l id) i = at_ l i := by
  unfold queryOf; rw [at_lay (by rw [lay_length (by omega)]; omega) (by omega), at_lay (by omega) (by omega)]
theorem query_id {l : List UInt8} {id : Int} (h : 8 ≤ l.length) (hi : 0 ≤ id ∧ id ≤ 65535) : be16 (queryOf l id) 4 = id := by
  unfold queryOf; rw [lay_other (by rw [lay_length (by omega)]; omega) (by omega), lay_at (by omega) hi]
theorem query_new {l : List UInt8} {id : Int} (h : 8 ≤ l.length) (hi : 0 ≤ id ∧ id ≤ 65535) : be16 (queryOf l id) 2 = upd (be16 l 2) (be16 l 4) id := by
  unfold queryOf; rw [lay_at (by rw [lay_length (by omega)]; omega) (upd_bd (be16_bd _ _) (be16_bd _ _) hi)]
theorem query_again {l : List UInt8} {i j : Int} (h : 8 ≤ l.length) : queryOf (queryOf l i) j = lay (lay l 4 j) 2 (upd (be16 (queryOf l i) 2) (be16 (queryOf l i) 4) j) := by
  show lay (lay (queryOf l i) 4 j) 2 _ = _
  generalize upd (be16 (queryOf l i) 2) (be16 (queryOf l i) 4) j = m
  unfold queryOf
  generalize upd (be16 l 2) (be16 l 4) i = n
  obtain ⟨b0, b1, b2, b3, b4, b5, b6, b7, r, rfl⟩ := eight h
  rfl

/-! ### what is seen -/
theorem load_cases {p : Int} {P : List UInt8} (hw : loadWhy p (S P) = 0) : (p = 6 ∧ tcpIs (S P) = true) ∨ (p = 17 ∧ udpIs (S P) = true) ∨ (p = 1 ∧ 8 ≤ P.length ∧ (qIs (msgOf (S P)) = true ∨ qErr (msgOf (S P)) = true)) := by
  unfold loadWhy at hw
  by_cases h6 : p = 6
  · rw [if_pos h6] at hw
    left; refine ⟨h6, ?_⟩
    by_cases h : tcpIs (S P) = true
    · exact h
    · rw [if_neg h] at hw; omega
  rw [if_neg h6] at hw
  by_cases h17 : p = 17
  · rw [if_pos h17] at hw
    right; left; refine ⟨h17, ?_⟩
    by_cases h : udpIs (S P) = true
    · exact h
    · rw [if_neg h] at hw; omega
  rw [if_neg h17] at hw
  by_cases h1 : p = 1
  · rw [if_pos h1] at hw
    right; right
    by_cases h8 : (S P).size < 8
    · rw [if_pos h8] at hw; omega
    rw [if_neg h8] at hw
    rw [S_size] at h8
    refine ⟨h1, by omega, ?_⟩
    by_cases h : qIs (msgOf (S P)) = true ∨ qErr (msgOf (S P)) = true
    · exact h
    · rw [if_neg h] at hw; omega
  · rw [if_neg h1] at hw; omega
theorem tcpIs_len {P : List UInt8} (h : tcpIs (S P) = true) : 20 ≤ P.length := by
  unfold tcpIs at h; rw [S_size] at h; simp at h; omega
theorem udpIs_len {P : List UInt8} (h : udpIs (S P) = true) : 8 ≤ P.length := by
  unfold udpIs at h; rw [S_size] at h; simp at h; omega
theorem tcpIs_of {P Q : List UInt8} (h : tcpIs (S P) = true) (hz : Q.length = P.length) (h12 : at_ Q 12 = at_ P 12) : tcpIs (S Q) = true := by
  unfold tcpIs tcpOwn at *
  rw [S_size, L_S] at *
  rw [hz, h12]; exact h
theorem udpIs_of {P Q : List UInt8} (h : udpIs (S P) = true) (hz : Q.length = P.length) (h4 : be16 Q 4 = be16 P 4) : udpIs (S Q) = true := by
  have h8 := udpIs_len h
  have e : get16 Q 4 = get16 P 4 := by
    show get16 Q ((4 : Nat) : Int) = get16 P ((4 : Nat) : Int)
    rw [get16_nat (by omega), get16_nat (by omega), h4]
  unfold udpIs at *
  rw [S_size, L_S] at *
  rw [hz, e]; exact h
theorem msg_t (P : List UInt8) : (msgOf (S P)).t = at_ P 0 := rfl
theorem msg_c (P : List UInt8) : (msgOf (S P)).c = at_ P 1 := rfl
theorem msg_id {P : List UInt8} (h : 8 ≤ P.length) : get16 (L (msgOf (S P)).r) 0 = be16 P 4 := by
  show get16 (L ((S P).extract 4 8)) ((0 : Nat) : Int) = _
  rw [get16_nat (by rw [L_length, ByteArray.size_extract, S_size]; omega), L_extract, L_S, be16_take (by omega), be16_drop]
theorem asks_of {P Q : List UInt8} (h0 : at_ Q 0 = at_ P 0) (h1 : at_ Q 1 = at_ P 1) : qAsk (msgOf (S Q)) = qAsk (msgOf (S P)) ∧ qIs (msgOf (S Q)) = qIs (msgOf (S P)) ∧ qErr (msgOf (S Q)) = qErr (msgOf (S P)) := by
  unfold qAsk qIs qErr
  simp only [msg_t, msg_c, h0, h1]
  exact ⟨rfl, rfl, rfl⟩
theorem seen_tcp {h : Hd} {P : List UInt8} (hp : h.p = 6) (hz : 20 ≤ P.length) : loadSeen h (S P) = ⟨⟨6, h.s, be16 P 0, h.d, be16 P 2⟩, if bits .and .u8 (at_ P 13) 23 = 2 then 1 else 2, at_ P 13, false, h.l⟩ := by
  have e0 : (segOf (S P)).s = be16 P 0 := by show get16 P ((0 : Nat) : Int) = _; exact get16_nat (by omega)
  have e2 : (segOf (S P)).d = be16 P 2 := by show get16 P ((2 : Nat) : Int) = _; exact get16_nat (by omega)
  unfold loadSeen
  rw [if_pos hp, e0, e2]; rfl
theorem seen_udp {h : Hd} {P : List UInt8} (hp : h.p = 17) (hz : 8 ≤ P.length) : loadSeen h (S P) = ⟨⟨17, h.s, be16 P 0, h.d, be16 P 2⟩, 2, 0, false, h.l⟩ := by
  have e0 : get16 (L (S P)) 0 = be16 P 0 := by show get16 P ((0 : Nat) : Int) = _; exact get16_nat (by omega)
  have e2 : get16 (L (S P)) 2 = be16 P 2 := by show get16 P ((2 : Nat) : Int) = _; exact get16_nat (by omega)
  unfold loadSeen
  rw [if_neg (by omega), if_pos hp, e0, e2]
theorem seen_msg {h : Hd} {P : List UInt8} (hp : h.p = 1) (hz : 8 ≤ P.length) : loadSeen h (S P) = if qAsk (msgOf (S P)) = true then ⟨⟨1, h.s, be16 P 4, h.d, 0⟩, 2, 0, true, h.l⟩ else if qIs (msgOf (S P)) = true then ⟨⟨1, h.s, 0, h.d, be16 P 4⟩, 2, 0, false, h.l⟩ else ⟨⟨1, h.s, 0, h.d, 0⟩, 3, 0, false, h.l⟩ := by
  unfold loadSeen
  rw [if_neg (by omega), if_neg (by omega), msg_id hz]
/-- what is seen of a packet that was changed -/
def seenTo (x : Seen) (a b c d : Int) : Seen :=
  if x.k = 3 then ⟨⟨x.t.p, a, x.t.b, c, x.t.d⟩, x.k, x.f, x.q, x.l - 1⟩
  else if x.t.p ≠ 1 then ⟨⟨x.t.p, a, b, c, d⟩, x.k, x.f, x.q, x.l - 1⟩
  else if x.q = true then ⟨⟨x.t.p, a, b, c, x.t.d⟩, x.k, x.f, x.q, x.l - 1⟩
  else ⟨⟨x.t.p, a, x.t.b, c, d⟩, x.k, x.f, x.q, x.l - 1⟩
theorem load_change {h g : Hd} {P ips : List UInt8} {a b c d : Int} (hw : loadWhy h.p (S P) = 0) (hb : 0 ≤ b ∧ b ≤ 65535) (hd : 0 ≤ d ∧ d ≤ 65535) (gp : g.p = h.p) (gl : g.l = h.l - 1) (gs : g.s = a) (gd : g.d = c) :
    (loadNew (loadSeen h (S P)) P ips a b c d).length = P.length ∧ loadWhy h.p (S (loadNew (loadSeen h (S P)) P ips a b c d)) = 0 ∧ loadSeen g (S (loadNew (loadSeen h (S P)) P ips a b c d)) = seenTo (loadSeen h (S P)) a b c d := by
  rcases load_cases hw with ⟨hp, ht⟩ | ⟨hp, ht⟩ | ⟨hp, h8, ht⟩
  · have hz := tcpIs_len ht
    have el : loadNew (loadSeen h (S P)) P ips a b c d = flowNew P ips a b c d 16 := by
      rw [seen_tcp hp hz]; unfold loadNew; rw [if_pos rfl]
    rw [el]
    have ez : (flowNew P ips a b c d 16).length = P.length := flow_len (by omega) (by omega)
    have e12 : at_ (flowNew P ips a b c d 16) 12 = at_ P 12 := flow_at (by omega) (by omega) (by omega) (by omega)
    have e13 : at_ (flowNew P ips a b c d 16) 13 = at_ P 13 := flow_at (by omega) (by omega) (by omega) (by omega)
    obtain ⟨es, ed⟩ := flow_src (l := P) (ips := ips) (a := a) (c := c) (k := 16) (by omega) (by omega) hb hd
    refine ⟨ez, ?_, ?_⟩
    · unfold loadWhy; rw [if_pos hp, if_pos (tcpIs_of ht ez e12)]
    · rw [seen_tcp hp hz, seen_tcp (by rw [gp, hp]) (by rw [ez]; exact hz), es, ed, e13, gs, gd, gl]
      have hk : (if bits .and .u8 (at_ P 13) 23 = 2 then (1 : Int) else 2) ≠ 3 := by split <;> decide
      generalize (if bits .and .u8 (at_ P 13) 23 = 2 then (1 : Int) else 2) = k at *
      unfold seenTo
      rw [if_neg hk, if_pos (by dsimp only; decide)]
  · have hz := udpIs_len ht
    have el : loadNew (loadSeen h (S P)) P ips a b c d = flowNew P ips a b c d 6 := by
      rw [seen_udp hp hz]; unfold loadNew; rw [if_neg (by dsimp only; decide), if_pos rfl]
    rw [el]
    have ez : (flowNew P ips a b c d 6).length = P.length := flow_len (by omega) (by omega)
    have e4 : be16 (flowNew P ips a b c d 6) 4 = be16 P 4 := by unfold be16; rw [flow_at (by omega) (by omega) (by omega) (by omega), flow_at (by omega) (by omega) (by omega) (by omega)]
    obtain ⟨es, ed⟩ := flow_src (l := P) (ips := ips) (a := a) (c := c) (k := 6) (by omega) (by omega) hb hd
    refine ⟨ez, ?_, ?_⟩
    · unfold loadWhy; rw [if_neg (by omega), if_pos hp, if_pos (udpIs_of ht ez e4)]
    · rw [seen_udp hp hz, seen_udp (by rw [gp, hp]) (by rw [ez]; exact hz), es, ed, gs, gd, gl]
      unfold seenTo
      rw [if_neg (by dsimp only; decide), if_pos (by dsimp only; decide)]
  · have hi : ∀ Q : List UInt8, Q.length = P.length → (qIs (msgOf (S Q)) = true ∨ qErr (msgOf (S Q)) = true) → loadWhy h.p (S Q) = 0 := by
      intro Q hz hq
      unfold loadWhy
      rw [if_neg (by omega), if_neg (by omega), if_pos hp, if_neg (by rw [S_size]; omega), if_pos hq]
    by_cases ha : qAsk (msgOf (S P)) = true
    · have ex : loadSeen h (S P) = ⟨⟨1, h.s, be16 P 4, h.d, 0⟩, 2, 0, true, h.l⟩ := by rw [seen_msg hp h8, if_pos ha]
      have el : loadNew (loadSeen h (S P)) P ips a b c d = queryOf P b := by
        rw [ex]; unfold loadNew; rw [if_neg (by dsimp only; decide), if_neg (by dsimp only; decide), if_neg (by dsimp only; decide), if_pos rfl]
      rw [el]
      have ez := query_len (id := b) h8
      obtain ⟨q1, q2, q3⟩ := asks_of (query_at (id := b) h8 (i := 0) (by omega)) (query_at (id := b) h8 (i := 1) (by omega))
      refine ⟨ez, hi _ ez (by rw [q2, q3]; exact ht), ?_⟩
      rw [ex, seen_msg (by rw [gp, hp]) (by rw [ez]; exact h8), if_pos (by rw [q1]; exact ha), query_id h8 hb, gs, gd, gl]
      unfold seenTo
      rw [if_neg (by dsimp only; decide), if_neg (by dsimp only; decide), if_pos rfl]
    · by_cases hq : qIs (msgOf (S P)) = true
      · have ex : loadSeen h (S P) = ⟨⟨1, h.s, 0, h.d, be16 P 4⟩, 2, 0, false, h.l⟩ := by rw [seen_msg hp h8, if_neg ha, if_pos hq]
        have el : loadNew (loadSeen h (S P)) P ips a b c d = queryOf P d := by
          rw [ex]; unfold loadNew; rw [if_neg (by dsimp only; decide), if_neg (by dsimp only; decide), if_neg (by dsimp only; decide), if_neg (by dsimp only; decide)]
        rw [el]
        have ez := query_len (id := d) h8
        obtain ⟨q1, q2, q3⟩ := asks_of (query_at (id := d) h8 (i := 0) (by omega)) (query_at (id := d) h8 (i := 1) (by omega))
        refine ⟨ez, hi _ ez (by rw [q2, q3]; exact ht), ?_⟩
        rw [ex, seen_msg (by rw [gp, hp]) (by rw [ez]; exact h8), if_neg (by rw [q1]; exact ha), if_pos (by rw [q2]; exact hq), query_id h8 hd, gs, gd, gl]
        unfold seenTo
        rw [if_neg (by dsimp only; decide), if_neg (by dsimp only; decide), if_neg (by dsimp only; decide)]
      · have ex : loadSeen h (S P) = ⟨⟨1, h.s, 0, h.d, 0⟩, 3, 0, false, h.l⟩ := by rw [seen_msg hp h8, if_neg ha, if_neg hq]
        have el : loadNew (loadSeen h (S P)) P ips a b c d = P := by
          rw [ex]; unfold loadNew; rw [if_neg (by dsimp only; decide), if_neg (by dsimp only; decide), if_pos rfl]
        rw [el]
        refine ⟨rfl, hw, ?_⟩
        rw [ex, seen_msg (by rw [gp, hp]) h8, if_neg ha, if_neg hq, gs, gd, gl]
        unfold seenTo
        rw [if_pos rfl]

/-! ### packets -/
theorem seen_whole {H P : List UInt8} (R : List UInt8) (w : Whole H P) :
    seenWhy (S (H ++ P ++ R)) = loadWhy (at_ H 9) (S P) ∧ (loadWhy (at_ H 9) (S P) = 0 → seenOf (S (H ++ P ++ R)) = loadSeen (hdL H) (S P)) ∧
    (∀ a b c d, rwNew (S (H ++ P ++ R)) a b c d = headNew H a c ++ loadNew (seenOf (S (H ++ P ++ R))) P ((H.drop 12).take 8) a b c d) := by
  obtain ⟨e1, e2, e3⟩ := whole_to R w
  have hy : seenWhy (S (H ++ P ++ R)) = loadWhy (at_ H 9) (S P) := by
    unfold seenWhy; rw [if_pos e1, e2, e3]; rfl
  refine ⟨hy, ?_, ?_⟩
  · intro h
    unfold seenOf
    rw [if_pos (by rw [hy]; exact h), e2, e3]
  · intro a b c d
    have h20 := w.h20
    have eo : ipOwn (L (S (H ++ P ++ R))) = H.length := by rw [L_S, List.append_assoc, own_app (by omega), w.own]
    have et : (L (S (H ++ P ++ R))).take (ipOwn (L (S (H ++ P ++ R)))).toNat = H := by rw [eo, L_S, Int.toNat_natCast, List.append_assoc, List.take_left]
    have ei : ((L (S (H ++ P ++ R))).drop 12).take 8 = (H.drop 12).take 8 := by
      rw [L_S, List.append_assoc, List.drop_append_of_le_length (by omega), List.take_append_of_le_length (by simp; omega)]
    unfold rwNew
    rw [et, ei, e3, L_S]
/-- a packet that may be changed, and what it is then -/
theorem change {H P : List UInt8} {a b c d : Int} (w : Whole H P) (hw : loadWhy (at_ H 9) (S P) = 0) (h8 : 1 ≤ at_ H 8) (ha : 0 ≤ a ∧ a ≤ 4294967295) (hb : 0 ≤ b ∧ b ≤ 65535) (hc : 0 ≤ c ∧ c ≤ 4294967295) (hd : 0 ≤ d ∧ d ≤ 65535) :
    Whole (headNew H a c) (loadNew (loadSeen (hdL H) (S P)) P ((H.drop 12).take 8) a b c d) ∧ (loadNew (loadSeen (hdL H) (S P)) P ((H.drop 12).take 8) a b c d).length = P.length ∧
    at_ (headNew H a c) 9 = at_ H 9 ∧ at_ (headNew H a c) 8 = at_ H 8 - 1 ∧ loadWhy (at_ H 9) (S (loadNew (loadSeen (hdL H) (S P)) P ((H.drop 12).take 8) a b c d)) = 0 ∧
    loadSeen (hdL (headNew H a c)) (S (loadNew (loadSeen (hdL H) (S P)) P ((H.drop 12).take 8) a b c d)) = seenTo (loadSeen (hdL H) (S P)) a b c d := by
  obtain ⟨_, w8, w9, w12, w16⟩ := head_whole (Q := P) w ha hc h8 rfl
  obtain ⟨c1, c2, c3⟩ := load_change (h := hdL H) (g := hdL (headNew H a c)) (P := P) (ips := (H.drop 12).take 8) (a := a) (c := c) hw hb hd w9 w8 w12 w16
  exact ⟨(head_whole w ha hc h8 c1).1, c1, w9, w8, c2, c3⟩
end Go.Proofs.YtjeaknipmdfkdaaGreatDoor
end

section
/- Packets, changed twice, changed back: plain. No walk. -/
set_option linter.unusedVariables false
namespace Go.Proofs.YtjeaknipmdfkdaaGreatDoor
open Go.RowKit

/-- a packet with 0 for its TTL, and its header's sum -/
def zeroH (l : List UInt8) : List UInt8 := ((l.set 8 0).set 10 0).set 11 0
def fix0 (n : Int) : Int := if n = 65535 then 0 else n
/-- so, and with 0 for a sum of 65535 -/
def plainL (l : List UInt8) (k : Nat) : List UInt8 := if 0 < k ∧ k + 1 < l.length ∧ at_ (zeroH l) k = 255 ∧ at_ (zeroH l) (k + 1) = 255 then ((zeroH l).set k 0).set (k + 1) 0 else zeroH l
def sumAtL (x : Seen) (own : Nat) : Nat := if x.t.p = 6 then own + 16 else if x.t.p = 17 then own + 6 else if x.k = 3 then 0 else own + 2
theorem fix0_mod {n m : Int} (hn : 0 ≤ n ∧ n ≤ 65535) (hm : 0 ≤ m ∧ m ≤ 65535) (h : (n - m) % 65535 = 0) : fix0 n = fix0 m := by unfold fix0; split <;> split <;> omega
theorem zero_len (l : List UInt8) : (zeroH l).length = l.length := by simp [zeroH]
theorem zero_app {H P : List UInt8} (h : 20 ≤ H.length) : zeroH (H ++ P) = zeroH H ++ P := by
  unfold zeroH; rw [List.set_append_left _ _ (by omega), List.set_append_left _ _ (by simp; omega), List.set_append_left _ _ (by simp; omega)]
theorem plain_0 {H P : List UInt8} (h : 20 ≤ H.length) : plainL (H ++ P) 0 = zeroH H ++ P := by
  unfold plainL; rw [if_neg (by omega), zero_app h]
theorem plain_is {H P : List UInt8} {j k : Nat} (h : 20 ≤ H.length) (hj : j + 2 ≤ P.length) (hk : k = H.length + j) : plainL (H ++ P) k = zeroH H ++ lay P j (fix0 (be16 P j)) := by
  subst hk
  have hz := zero_len H
  have b0 := at_bd P j
  have b1 := at_bd P (j + 1)
  have eb : be16 P j = at_ P j * 256 + at_ P (j + 1) := rfl
  unfold plainL
  rw [zero_app h, at_right (by omega), at_right (by omega), hz, show H.length + j - H.length = j from by omega, show H.length + j + 1 - H.length = j + 1 from by omega]
  unfold fix0
  by_cases e : be16 P j = 65535
  · rw [if_pos (by simp; omega), if_pos e, List.set_append_right _ _ (by omega), List.set_append_right _ _ (by omega), hz, show H.length + j - H.length = j from by omega, show H.length + j + 1 - H.length = j + 1 from by omega, lay_zero hj]
  · rw [if_neg (by omega), if_neg e, lay_self hj]
theorem zero_head (b0 b1 b2 b3 b4 b5 b6 b7 b8 b9 b10 b11 b12 b13 b14 b15 b16 b17 b18 b19 : UInt8) (o : List UInt8) (x y : Int) : zeroH (headNew (b0 :: b1 :: b2 :: b3 :: b4 :: b5 :: b6 :: b7 :: b8 :: b9 :: b10 :: b11 :: b12 :: b13 :: b14 :: b15 :: b16 :: b17 :: b18 :: b19 :: o) x y) = b0 :: b1 :: b2 :: b3 :: b4 :: b5 :: b6 :: b7 :: 0 :: b9 :: 0 :: 0 :: (put32 x ++ (put32 y ++ o)) := rfl
theorem head_ex (b0 b1 b2 b3 b4 b5 b6 b7 b8 b9 b10 b11 b12 b13 b14 b15 b16 b17 b18 b19 : UInt8) (o : List UInt8) (x y : Int) : ∃ c8 c10 c11 c12 c13 c14 c15 c16 c17 c18 c19, headNew (b0 :: b1 :: b2 :: b3 :: b4 :: b5 :: b6 :: b7 :: b8 :: b9 :: b10 :: b11 :: b12 :: b13 :: b14 :: b15 :: b16 :: b17 :: b18 :: b19 :: o) x y = b0 :: b1 :: b2 :: b3 :: b4 :: b5 :: b6 :: b7 :: c8 :: b9 :: c10 :: c11 :: c12 :: c13 :: c14 :: c15 :: c16 :: c17 :: c18 :: c19 :: o := ⟨_, _, _, _, _, _, _, _, _, _, _, rfl⟩
theorem zero_twice {H : List UInt8} (a c a2 c2 : Int) (h : 20 ≤ H.length) : zeroH (headNew (headNew H a c) a2 c2) = zeroH (headNew H a2 c2) := by
  obtain ⟨b0, b1, b2, b3, b4, b5, b6, b7, b8, b9, b10, b11, b12, b13, b14, b15, b16, b17, b18, b19, o, rfl⟩ := twenty h
  obtain ⟨c8, c10, c11, c12, c13, c14, c15, c16, c17, c18, c19, e⟩ := head_ex b0 b1 b2 b3 b4 b5 b6 b7 b8 b9 b10 b11 b12 b13 b14 b15 b16 b17 b18 b19 o a c
  rw [e, zero_head, zero_head]
theorem zero_back {H : List UInt8} (a c : Int) (h : 20 ≤ H.length) : zeroH (headNew (headNew H a c) (be32 H 12) (be32 H 16)) = zeroH H := by
  rw [zero_twice _ _ _ _ h]
  obtain ⟨b0, b1, b2, b3, b4, b5, b6, b7, b8, b9, b10, b11, b12, b13, b14, b15, b16, b17, b18, b19, o, rfl⟩ := twenty h
  have e12 : be32 (b0 :: b1 :: b2 :: b3 :: b4 :: b5 :: b6 :: b7 :: b8 :: b9 :: b10 :: b11 :: b12 :: b13 :: b14 :: b15 :: b16 :: b17 :: b18 :: b19 :: o) 12 = ((b12.toNat : Int) * 256 + (b13.toNat : Int)) * 65536 + ((b14.toNat : Int) * 256 + (b15.toNat : Int)) := rfl
  have e16 : be32 (b0 :: b1 :: b2 :: b3 :: b4 :: b5 :: b6 :: b7 :: b8 :: b9 :: b10 :: b11 :: b12 :: b13 :: b14 :: b15 :: b16 :: b17 :: b18 :: b19 :: o) 16 = ((b16.toNat : Int) * 256 + (b17.toNat : Int)) * 65536 + ((b18.toNat : Int) * 256 + (b19.toNat : Int)) := rfl
  have e : ∀ x y, zeroH (headNew (b0 :: b1 :: b2 :: b3 :: b4 :: b5 :: b6 :: b7 :: b8 :: b9 :: b10 :: b11 :: b12 :: b13 :: b14 :: b15 :: b16 :: b17 :: b18 :: b19 :: o) x y) = b0 :: b1 :: b2 :: b3 :: b4 :: b5 :: b6 :: b7 :: 0 :: b9 :: 0 :: 0 :: (put32 x ++ (put32 y ++ o)) := fun x y => rfl
  rw [e, e12, e16, put32_be, put32_be]
  rfl
theorem ips_self {H : List UInt8} (h : 20 ≤ H.length) : ipsOf (be32 H 12) (be32 H 16) = (H.drop 12).take 8 := by
  obtain ⟨b0, b1, b2, b3, b4, b5, b6, b7, b8, b9, b10, b11, b12, b13, b14, b15, b16, b17, b18, b19, o, rfl⟩ := twenty h
  have e12 : be32 (b0 :: b1 :: b2 :: b3 :: b4 :: b5 :: b6 :: b7 :: b8 :: b9 :: b10 :: b11 :: b12 :: b13 :: b14 :: b15 :: b16 :: b17 :: b18 :: b19 :: o) 12 = ((b12.toNat : Int) * 256 + (b13.toNat : Int)) * 65536 + ((b14.toNat : Int) * 256 + (b15.toNat : Int)) := rfl
  have e16 : be32 (b0 :: b1 :: b2 :: b3 :: b4 :: b5 :: b6 :: b7 :: b8 :: b9 :: b10 :: b11 :: b12 :: b13 :: b14 :: b15 :: b16 :: b17 :: b18 :: b19 :: o) 16 = ((b16.toNat : Int) * 256 + (b17.toNat : Int)) * 65536 + ((b18.toNat : Int) * 256 + (b19.toNat : Int)) := rfl
  unfold ipsOf
  rw [e12, e16, put32_be, put32_be]
  rfl
theorem ips_new {H : List UInt8} (a c : Int) (h : 20 ≤ H.length) : ((headNew H a c).drop 12).take 8 = ipsOf a c := by
  rw [head_is a c h, List.drop_left' (by simp [lifeOf, put16_length]; omega), ← List.append_assoc]
  exact List.take_left' rfl
theorem head_at {H : List UInt8} (a c : Int) (h : 20 ≤ H.length) {i : Nat} (hi : i < 8 ∨ i = 9 ∨ 20 ≤ i) : at_ (headNew H a c) i = at_ H i := by
  obtain ⟨b0, b1, b2, b3, b4, b5, b6, b7, b8, b9, b10, b11, b12, b13, b14, b15, b16, b17, b18, b19, o, rfl⟩ := twenty h
  rcases hi with hi | rfl | hi
  · have : i = 0 ∨ i = 1 ∨ i = 2 ∨ i = 3 ∨ i = 4 ∨ i = 5 ∨ i = 6 ∨ i = 7 := by omega
    rcases this with rfl | rfl | rfl | rfl | rfl | rfl | rfl | rfl <;> rfl
  · rfl
  · obtain ⟨j, rfl⟩ : ∃ j, i = 20 + j := ⟨i - 20, by omega⟩
    rw [← at_drop, ← at_drop]
    rfl

section
variable {P ips : List UInt8} {a b c d a2 b2 c2 d2 : Int} {k : Nat}
theorem flow_two (h : k + 2 ≤ P.length) (h4 : 4 ≤ k) (hi : ips.length = 8) :
    ∃ m, flowNew (flowNew P ips a b c d k) (ipsOf a c) a2 b2 c2 d2 k = lay (putW [b2, d2] ++ P.drop 4) k m ∧ (0 ≤ m ∧ m ≤ 65535) ∧ (k = 6 → (m = 0 ↔ be16 P k = 0)) ∧
      ((k = 6 → be16 P k ≠ 0) → (m - (be16 P k + ends ips (P.take 4) - ends (ipsOf a2 c2) (putW [b2, d2]))) % 65535 = 0) := by
  obtain ⟨m1, m2, m3⟩ := flow_mod (l := P) (ips := ips) (a := a) (b := b) (c := c) (d := d) h h4 hi
  have ez : (flowNew P ips a b c d k).length = P.length := flow_len h (by omega)
  obtain ⟨n1, n2, n3⟩ := flow_mod (l := flowNew P ips a b c d k) (ips := ipsOf a c) (a := a2) (b := b2) (c := c2) (d := d2) (k := k) (by rw [ez]; exact h) h4 rfl
  rw [flow_take h h4] at n3
  have en := flow_new (l := P) (ips := ips) (a := a) (b := b) (c := c) (d := d) h h4
  refine ⟨_, flow_again h h4, n1, ?_, ?_⟩
  · intro hk
    rw [n2 hk, en, m2 hk]
  · intro hk
    have q1 := m3 hk
    have q2 := n3 (fun e => by rw [en]; exact fun q => hk e ((m2 e).1 q))
    rw [en] at q2
    generalize flowFix k (be16 P k) (flowSum P ips a b c d k) = u at *
    rw [en] at *
    omega
end
/-- two texts that are alike but for what a sum of 0 or 65535 is -/
def Like (x : Seen) (n : Nat) (P Q : List UInt8) : Prop :=
  P.length = n ∧ Q.length = n ∧ ((∀ own, sumAtL x own = 0) ∧ P = Q ∨ ∃ j X m m', (∀ own, sumAtL x own = own + j) ∧ X.length = n ∧ j + 2 ≤ n ∧ P = lay X j m ∧ Q = lay X j m' ∧ (0 ≤ m ∧ m ≤ 65535) ∧ (0 ≤ m' ∧ m' ≤ 65535) ∧ fix0 m = fix0 m')
theorem Like.plain {x : Seen} {n : Nat} {P Q H G : List UInt8} (h : Like x n P Q) (h20 : 20 ≤ H.length) (hz : G.length = H.length) (he : zeroH H = zeroH G) : plainL (H ++ P) (sumAtL x H.length) = plainL (G ++ Q) (sumAtL x G.length) := by
  obtain ⟨z1, z2, ⟨h0, rfl⟩ | ⟨j, X, m, m', hs, hx, hj, rfl, rfl, hm, hm', e⟩⟩ := h
  · rw [h0, h0, plain_0 h20, plain_0 (by omega), he]
  · rw [plain_is (j := j) h20 (by omega) (hs _), plain_is (j := j) (by omega) (by omega) (hs _), he, lay_at (by omega) hm, lay_at (by omega) hm', e, lay_lay (by omega), lay_lay (by omega)]
theorem load_two {h g : Hd} {P ips : List UInt8} {a b c d a2 b2 c2 d2 : Int} (hw : loadWhy h.p (S P) = 0) (hi : ips.length = 8) (hb : 0 ≤ b ∧ b ≤ 65535) (hd : 0 ≤ d ∧ d ≤ 65535) (hb2 : 0 ≤ b2 ∧ b2 ≤ 65535) (hd2 : 0 ≤ d2 ∧ d2 ≤ 65535) :
    Like (loadSeen h (S P)) P.length (loadNew (seenTo (loadSeen h (S P)) a b c d) (loadNew (loadSeen h (S P)) P ips a b c d) (ipsOf a c) a2 b2 c2 d2) (loadNew (loadSeen h (S P)) P ips a2 b2 c2 d2) ∧
    (ipsOf a2 c2 = ips → b2 = (loadSeen h (S P)).t.b → d2 = (loadSeen h (S P)).t.d → Like (loadSeen h (S P)) P.length (loadNew (seenTo (loadSeen h (S P)) a b c d) (loadNew (loadSeen h (S P)) P ips a b c d) (ipsOf a c) a2 b2 c2 d2) P) := by
  have flow : ∀ x : Seen, ∀ k, 4 ≤ k → k + 2 ≤ P.length → (∀ own, sumAtL x own = own + k) → 
      Like x P.length (flowNew (flowNew P ips a b c d k) (ipsOf a c) a2 b2 c2 d2 k) (flowNew P ips a2 b2 c2 d2 k) ∧ (ipsOf a2 c2 = ips → b2 = be16 P 0 → d2 = be16 P 2 → Like x P.length (flowNew (flowNew P ips a b c d k) (ipsOf a c) a2 b2 c2 d2 k) P) := by
    intro x k h4 hk hs
    obtain ⟨m, e, m1, m2, m3⟩ := flow_two (a := a) (b := b) (c := c) (d := d) (a2 := a2) (b2 := b2) (c2 := c2) (d2 := d2) hk h4 hi
    obtain ⟨n1, n2, n3⟩ := flow_mod (l := P) (ips := ips) (a := a2) (b := b2) (c := c2) (d := d2) hk h4 hi
    have zx : (putW [b2, d2] ++ P.drop 4).length = P.length := by simp [pw_len]; omega
    have zq : (lay (putW [b2, d2] ++ P.drop 4) k m).length = P.length := by rw [lay_length (by omega)]; exact zx
    rw [e]
    constructor
    · refine ⟨zq, flow_len hk (by omega), Or.inr ⟨k, putW [b2, d2] ++ P.drop 4, m, _, hs, zx, hk, rfl, rfl, m1, n1, ?_⟩⟩
      generalize flowFix k (be16 P k) (flowSum P ips a2 b2 c2 d2 k) = u at *
      by_cases h0 : k = 6 ∧ be16 P k = 0
      · have q1 := (m2 h0.1).2 h0.2
        have q2 := (n2 h0.1).2 h0.2
        rw [q1, q2]
      · have q1 := m3 (fun h6 => fun q => h0 ⟨h6, q⟩)
        have q2 := n3 (fun h6 => fun q => h0 ⟨h6, q⟩)
        exact fix0_mod m1 n1 (by omega)
    · intro ei eb ed
      have ep : putW [b2, d2] ++ P.drop 4 = P := by rw [eb, ed]; exact ports_self (by omega)
      have et : P.take 4 = putW [b2, d2] := by
        conv => lhs; rw [← ep]
        exact List.take_left' (pw_len _ _)
      rw [ep] at zq ⊢
      refine ⟨zq, rfl, Or.inr ⟨k, P, m, be16 P k, hs, rfl, hk, rfl, (lay_self hk).symm, m1, be16_bd _ _, ?_⟩⟩
      by_cases h0 : k = 6 ∧ be16 P k = 0
      · rw [(m2 h0.1).2 h0.2, h0.2]
      · have q1 := m3 (fun h6 => fun q => h0 ⟨h6, q⟩)
        rw [ei, et] at q1
        exact fix0_mod m1 (be16_bd _ _) (by omega)
  have ask : ∀ x : Seen, ∀ i j, 8 ≤ P.length → (0 ≤ i ∧ i ≤ 65535) → (0 ≤ j ∧ j ≤ 65535) → (∀ own, sumAtL x own = own + 2) →
      Like x P.length (queryOf (queryOf P i) j) (queryOf P j) ∧ (j = be16 P 4 → Like x P.length (queryOf (queryOf P i) j) P) := by
    intro x i j h8 hi hj hs
    have u1 := upd_mod (be16_bd P 2) (be16_bd P 4) hi
    have v1 := upd_bd (be16_bd P 2) (be16_bd P 4) hi
    have u2 := upd_mod v1 hi hj
    have v2 := upd_bd v1 hi hj
    have u3 := upd_mod (be16_bd P 2) (be16_bd P 4) hj
    have v3 := upd_bd (be16_bd P 2) (be16_bd P 4) hj
    have e := query_again (l := P) (i := i) (j := j) h8
    rw [query_new h8 hi, query_id h8 hi] at e
    have z4 : (lay P 4 j).length = P.length := lay_length (by omega)
    rw [e]
    constructor
    · refine ⟨by rw [lay_length (by omega)]; exact z4, query_len h8, Or.inr ⟨2, lay P 4 j, _, _, hs, z4, by omega, rfl, rfl, v2, v3, fix0_mod v2 v3 (by omega)⟩⟩
    · intro ej
      have ep : lay P 4 j = P := by rw [ej]; exact lay_self (by omega)
      rw [ep]
      have n2 := be16_bd P 2
      exact ⟨lay_length (by omega), rfl, Or.inr ⟨2, P, _, be16 P 2, hs, rfl, by omega, rfl, (lay_self (by omega)).symm, v2, n2, fix0_mod v2 n2 (by omega)⟩⟩
  rcases load_cases hw with ⟨hp, ht⟩ | ⟨hp, ht⟩ | ⟨hp, h8, ht⟩
  · have hz := tcpIs_len ht
    rw [seen_tcp hp hz]
    have es : seenTo ⟨⟨6, h.s, be16 P 0, h.d, be16 P 2⟩, if bits .and .u8 (at_ P 13) 23 = 2 then 1 else 2, at_ P 13, false, h.l⟩ a b c d = ⟨⟨6, a, b, c, d⟩, if bits .and .u8 (at_ P 13) 23 = 2 then 1 else 2, at_ P 13, false, h.l - 1⟩ := by
      have hk : (if bits .and .u8 (at_ P 13) 23 = 2 then (1 : Int) else 2) ≠ 3 := by split <;> decide
      generalize (if bits .and .u8 (at_ P 13) 23 = 2 then (1 : Int) else 2) = k at *
      unfold seenTo; rw [if_neg hk, if_pos (by dsimp only; decide)]
    rw [es]
    have el : ∀ x : Seen, ∀ l i a b c d, x.t.p = 6 → loadNew x l i a b c d = flowNew l i a b c d 16 := by intro x l i a b c d e; unfold loadNew; rw [if_pos e]
    rw [el _ _ _ _ _ _ _ rfl, el _ _ _ _ _ _ _ rfl, el _ _ _ _ _ _ _ rfl]
    exact flow _ 16 (by omega) (by omega) (fun own => by unfold sumAtL; rw [if_pos rfl])
  · have hz := udpIs_len ht
    rw [seen_udp hp hz]
    have es : seenTo ⟨⟨17, h.s, be16 P 0, h.d, be16 P 2⟩, 2, 0, false, h.l⟩ a b c d = ⟨⟨17, a, b, c, d⟩, 2, 0, false, h.l - 1⟩ := by
      unfold seenTo; rw [if_neg (by dsimp only; decide), if_pos (by dsimp only; decide)]
    rw [es]
    have el : ∀ x : Seen, ∀ l i a b c d, x.t.p = 17 → loadNew x l i a b c d = flowNew l i a b c d 6 := by intro x l i a b c d e; unfold loadNew; rw [if_neg (by omega), if_pos e]
    rw [el _ _ _ _ _ _ _ rfl, el _ _ _ _ _ _ _ rfl, el _ _ _ _ _ _ _ rfl]
    exact flow _ 6 (by omega) (by omega) (fun own => by unfold sumAtL; rw [if_neg (by dsimp only; decide), if_pos rfl])
  · rw [seen_msg hp h8]
    by_cases ha : qAsk (msgOf (S P)) = true
    · rw [if_pos ha]
      have es : seenTo ⟨⟨1, h.s, be16 P 4, h.d, 0⟩, 2, 0, true, h.l⟩ a b c d = ⟨⟨1, a, b, c, 0⟩, 2, 0, true, h.l - 1⟩ := by
        unfold seenTo; rw [if_neg (by dsimp only; decide), if_neg (by dsimp only; decide), if_pos rfl]
      rw [es]
      have el : ∀ x : Seen, ∀ l i a b c d, x.t.p = 1 → x.k = 2 → x.q = true → loadNew x l i a b c d = queryOf l b := by
        intro x l i a b c d e1 e2 e3; unfold loadNew; rw [if_neg (by omega), if_neg (by omega), if_neg (by omega), if_pos e3]
      rw [el _ _ _ _ _ _ _ rfl rfl rfl, el _ _ _ _ _ _ _ rfl rfl rfl, el _ _ _ _ _ _ _ rfl rfl rfl]
      have r := ask ⟨⟨1, h.s, be16 P 4, h.d, 0⟩, 2, 0, true, h.l⟩ b b2 h8 hb hb2 (fun own => by unfold sumAtL; rw [if_neg (by dsimp only; decide), if_neg (by dsimp only; decide), if_neg (by dsimp only; decide)])
      exact ⟨r.1, fun _ e _ => r.2 e⟩
    rw [if_neg ha]
    by_cases hq : qIs (msgOf (S P)) = true
    · rw [if_pos hq]
      have es : seenTo ⟨⟨1, h.s, 0, h.d, be16 P 4⟩, 2, 0, false, h.l⟩ a b c d = ⟨⟨1, a, 0, c, d⟩, 2, 0, false, h.l - 1⟩ := by
        unfold seenTo; rw [if_neg (by dsimp only; decide), if_neg (by dsimp only; decide), if_neg (by dsimp only; decide)]
      rw [es]
      have el : ∀ x : Seen, ∀ l i a b c d, x.t.p = 1 → x.k = 2 → x.q = false → loadNew x l i a b c d = queryOf l d := by
        intro x l i a b c d e1 e2 e3; unfold loadNew; rw [if_neg (by omega), if_neg (by omega), if_neg (by omega), if_neg (by rw [e3]; decide)]
      rw [el _ _ _ _ _ _ _ rfl rfl rfl, el _ _ _ _ _ _ _ rfl rfl rfl, el _ _ _ _ _ _ _ rfl rfl rfl]
      have r := ask ⟨⟨1, h.s, 0, h.d, be16 P 4⟩, 2, 0, false, h.l⟩ d d2 h8 hd hd2 (fun own => by unfold sumAtL; rw [if_neg (by dsimp only; decide), if_neg (by dsimp only; decide), if_neg (by dsimp only; decide)])
      exact ⟨r.1, fun _ _ e => r.2 e⟩
    · rw [if_neg hq]
      have es : seenTo ⟨⟨1, h.s, 0, h.d, 0⟩, 3, 0, false, h.l⟩ a b c d = ⟨⟨1, a, 0, c, 0⟩, 3, 0, false, h.l - 1⟩ := by
        unfold seenTo; rw [if_pos rfl]
      rw [es]
      have el : ∀ x : Seen, ∀ l i a b c d, x.t.p = 1 → x.k = 3 → loadNew x l i a b c d = l := by
        intro x l i a b c d e1 e2; unfold loadNew; rw [if_neg (by omega), if_neg (by omega), if_pos e2]
      rw [el _ _ _ _ _ _ _ rfl rfl, el _ _ _ _ _ _ _ rfl rfl, el _ _ _ _ _ _ _ rfl rfl]
      have r : Like ⟨⟨1, h.s, 0, h.d, 0⟩, 3, 0, false, h.l⟩ P.length P P := ⟨rfl, rfl, Or.inl ⟨fun own => by unfold sumAtL; rw [if_neg (by dsimp only; decide), if_neg (by dsimp only; decide), if_pos rfl], rfl⟩⟩
      exact ⟨r, fun _ _ _ => r⟩
end Go.Proofs.YtjeaknipmdfkdaaGreatDoor
end

section
/- Packets, changed: what the statements say of them, plain. No walk. -/
set_option linter.unusedVariables false
namespace Go.Proofs.YtjeaknipmdfkdaaGreatDoor
open Go.RowKit

theorem load_ends (h : Hd) (l : ByteArray) : (loadSeen h l).t.a = h.s ∧ (loadSeen h l).t.c = h.d ∧ (loadSeen h l).l = h.l := by
  unfold loadSeen
  split
  · exact ⟨rfl, rfl, rfl⟩
  split
  · exact ⟨rfl, rfl, rfl⟩
  split
  · exact ⟨rfl, rfl, rfl⟩
  split <;> exact ⟨rfl, rfl, rfl⟩
theorem load_ports (h : Hd) (l : ByteArray) : (0 ≤ (loadSeen h l).t.b ∧ (loadSeen h l).t.b ≤ 65535) ∧ (0 ≤ (loadSeen h l).t.d ∧ (loadSeen h l).t.d ≤ 65535) := by
  have g := fun l' i => get16_bd l' i
  unfold loadSeen
  split
  · exact ⟨g _ _, g _ _⟩
  split
  · exact ⟨g _ _, g _ _⟩
  split
  · exact ⟨g _ _, by dsimp only; omega⟩
  split
  · exact ⟨by dsimp only; omega, g _ _⟩
  · exact ⟨by dsimp only; omega, by dsimp only; omega⟩
theorem seenTo_sum (x : Seen) (a b c d : Int) (own : Nat) : sumAtL (seenTo x a b c d) own = sumAtL x own := by
  unfold seenTo
  split
  · rfl
  split
  · rfl
  split <;> rfl
theorem seenTo_l (x : Seen) (a b c d : Int) : (seenTo x a b c d).l = x.l - 1 := by
  unfold seenTo
  split
  · rfl
  split
  · rfl
  split <;> rfl
theorem taken_whole {s : ByteArray} (h : seenWhy s = 0) : ∃ H P R, s = S (H ++ P ++ R) ∧ Whole H P ∧ loadWhy (at_ H 9) (S P) = 0 ∧ seenOf s = loadSeen (hdL H) (S P) ∧ (seenOf s).l = at_ H 8 := by
  have hip : ipWhy s = 0 := by
    unfold seenWhy at h
    by_cases hi : ipWhy s = 0
    · exact hi
    · rw [if_neg hi] at h; exact h
  obtain ⟨H, P, R, rfl, w⟩ := whole_of hip
  obtain ⟨e1, e2, _⟩ := seen_whole R w
  rw [e1] at h
  exact ⟨H, P, R, rfl, w, h, e2 h, by rw [e2 h]; exact (load_ends _ _).2.2⟩
/-- what a whole packet is, changed -/
theorem out_whole {H P : List UInt8} (R : List UInt8) {a b c d : Int} (w : Whole H P) (hw : loadWhy (at_ H 9) (S P) = 0) (h8 : 2 ≤ at_ H 8) (ha : 0 ≤ a ∧ a ≤ 4294967295) (hb : 0 ≤ b ∧ b ≤ 65535) (hc : 0 ≤ c ∧ c ≤ 4294967295) (hd : 0 ≤ d ∧ d ≤ 65535) :
    ∃ G Q, Whole G Q ∧ G = headNew H a c ∧ Q = loadNew (loadSeen (hdL H) (S P)) P ((H.drop 12).take 8) a b c d ∧ rwWhy (S (H ++ P ++ R)) = 0 ∧ rwOut (S (H ++ P ++ R)) a b c d = S (G ++ Q) ∧ G.length = H.length ∧ Q.length = P.length ∧ at_ G 8 = at_ H 8 - 1 ∧ at_ G 9 = at_ H 9 ∧
      loadWhy (at_ G 9) (S Q) = 0 ∧ loadSeen (hdL G) (S Q) = seenTo (loadSeen (hdL H) (S P)) a b c d ∧ (G.drop 12).take 8 = ipsOf a c := by
  obtain ⟨c1, c2, c3, c4, c5, c6⟩ := change w hw (by omega) ha hb hc hd
  obtain ⟨e1, e2, e3⟩ := seen_whole R w
  have hy : rwWhy (S (H ++ P ++ R)) = 0 := by
    unfold rwWhy
    rw [e1, if_neg (by omega), e2 hw, if_neg]
    rw [(load_ends _ _).2.2]
    show ¬ at_ H 8 < 2
    omega
  refine ⟨_, _, c1, rfl, rfl, hy, ?_, headNew_length a c w.h20, c2, c4, c3, by rw [c3]; exact c5, c6, ips_new a c w.h20⟩
  unfold rwOut
  rw [if_pos hy, e3, e2 hw]
def plainOf (s : ByteArray) : ByteArray := S (plainL (L s) (sumAtL (seenOf s) (ipOwn (L s)).toNat))
theorem plainOf_whole {H P : List UInt8} (w : Whole H P) (hw : loadWhy (at_ H 9) (S P) = 0) : plainOf (S (H ++ P)) = S (plainL (H ++ P) (sumAtL (loadSeen (hdL H) (S P)) H.length)) := by
  obtain ⟨e1, e2, e3⟩ := seen_whole [] w
  rw [List.append_nil] at e2
  have h20 := w.h20
  unfold plainOf
  rw [e2 hw, L_S, own_app (by omega), w.own, Int.toNat_natCast]
theorem app_nil (l : List UInt8) : S l = S (l ++ []) := by rw [List.append_nil]

theorem rw_twice {s : ByteArray} {a b c d a2 b2 c2 d2 : Int} (h : seenWhy s = 0) (hl : 2 < (seenOf s).l) (ha : 0 ≤ a ∧ a ≤ 4294967295) (hb : 0 ≤ b ∧ b ≤ 65535) (hc : 0 ≤ c ∧ c ≤ 4294967295) (hd : 0 ≤ d ∧ d ≤ 65535)
    (ha2 : 0 ≤ a2 ∧ a2 ≤ 4294967295) (hb2 : 0 ≤ b2 ∧ b2 ≤ 65535) (hc2 : 0 ≤ c2 ∧ c2 ≤ 4294967295) (hd2 : 0 ≤ d2 ∧ d2 ≤ 65535) :
    rwWhy s = 0 ∧ rwWhy (rwOut s a b c d) = 0 ∧ 20 ≤ (rwOut (rwOut s a b c d) a2 b2 c2 d2).size ∧ 20 ≤ (rwOut s a2 b2 c2 d2).size ∧
    plainOf (rwOut (rwOut s a b c d) a2 b2 c2 d2) = plainOf (rwOut s a2 b2 c2 d2) := by
  obtain ⟨H, P, R, rfl, w, hw, hx, h8⟩ := taken_whole h
  rw [h8] at hl
  have h20 := w.h20
  obtain ⟨G, Q, wG, eG, eQ, y1, o1, zG, zQ, G8, G9, hwG, xG, iG⟩ := out_whole R (a := a) (b := b) (c := c) (d := d) w hw (by omega) ha hb hc hd
  obtain ⟨K, U, wK, eK, eU, y2, o2, zK, zU, K8, K9, hwK, xK, iK⟩ := out_whole [] (a := a2) (b := b2) (c := c2) (d := d2) wG hwG (by omega) ha2 hb2 hc2 hd2
  obtain ⟨M, V, wM, eM, eV, y3, o3, zM, zV, M8, M9, hwM, xM, iM⟩ := out_whole R (a := a2) (b := b2) (c := c2) (d := d2) w hw (by omega) ha2 hb2 hc2 hd2
  rw [← app_nil] at y2 o2
  rw [o1, o2, o3]
  refine ⟨y1, y2, ?_, ?_, ?_⟩
  · rw [S_size]; simp; omega
  · rw [S_size]; simp; omega
  · rw [plainOf_whole wK hwK, plainOf_whole wM hwM, xK, xM, xG, seenTo_sum, seenTo_sum, seenTo_sum]
    have hi : ((H.drop 12).take 8).length = 8 := by simp; omega
    have lk := (load_two (h := hdL H) (g := hdL G) (P := P) (ips := (H.drop 12).take 8) (a := a) (b := b) (c := c) (d := d) (a2 := a2) (b2 := b2) (c2 := c2) (d2 := d2) hw hi hb hd hb2 hd2).1
    rw [← eQ, ← eV, ← iG, ← xG, ← eU] at lk
    congr 1
    exact Like.plain (H := K) (G := M) lk (by omega) (by omega) (by rw [eK, eM, eG, zero_twice _ _ _ _ h20])
theorem rw_back {s : ByteArray} {a b c d : Int} (h : seenWhy s = 0) (hl : 2 < (seenOf s).l) (ha : 0 ≤ a ∧ a ≤ 4294967295) (hb : 0 ≤ b ∧ b ≤ 65535) (hc : 0 ≤ c ∧ c ≤ 4294967295) (hd : 0 ≤ d ∧ d ≤ 65535) (u : ByteArray) (hu : rwOut (rwOut s a b c d) (seenOf s).t.a (seenOf s).t.b (seenOf s).t.c (seenOf s).t.d = u) :
    rwWhy s = 0 ∧ rwWhy (rwOut s a b c d) = 0 ∧ 20 ≤ u.size ∧ u.size ≤ s.size ∧ at_ (L u) 8 = at_ (L s) 8 - 2 ∧ plainOf u = plainOf (s.extract 0 u.size) := by
  obtain ⟨H, P, R, rfl, w, hw, hx, h8⟩ := taken_whole h
  rw [h8] at hl
  have h20 := w.h20
  obtain ⟨ea, ec, _⟩ := load_ends (hdL H) (S P)
  obtain ⟨hb2, hd2⟩ := load_ports (hdL H) (S P)
  have ha2 : 0 ≤ (loadSeen (hdL H) (S P)).t.a ∧ (loadSeen (hdL H) (S P)).t.a ≤ 4294967295 := by rw [ea]; exact be32_bd _ _
  have hc2 : 0 ≤ (loadSeen (hdL H) (S P)).t.c ∧ (loadSeen (hdL H) (S P)).t.c ≤ 4294967295 := by rw [ec]; exact be32_bd _ _
  rw [hx] at hu
  obtain ⟨G, Q, wG, eG, eQ, y1, o1, zG, zQ, G8, G9, hwG, xG, iG⟩ := out_whole R (a := a) (b := b) (c := c) (d := d) w hw (by omega) ha hb hc hd
  obtain ⟨K, U, wK, eK, eU, y2, o2, zK, zU, K8, K9, hwK, xK, iK⟩ := out_whole [] (a := (loadSeen (hdL H) (S P)).t.a) (b := (loadSeen (hdL H) (S P)).t.b) (c := (loadSeen (hdL H) (S P)).t.c) (d := (loadSeen (hdL H) (S P)).t.d) wG hwG (by omega) ha2 hb2 hc2 hd2
  rw [← app_nil] at y2 o2
  rw [o1, o2] at hu
  subst hu
  rw [o1]
  have zu : (S (K ++ U)).size = H.length + P.length := by rw [S_size]; simp; omega
  have zs : (S (H ++ P ++ R)).size = H.length + P.length + R.length := by rw [S_size]; simp; omega
  have ex : (S (H ++ P ++ R)).extract 0 (S (K ++ U)).size = S (H ++ P) := by
    rw [← S_L ((S (H ++ P ++ R)).extract _ _), L_to, zu, L_S, List.take_left' (by simp)]
  refine ⟨y1, y2, by omega, by omega, ?_, ?_⟩
  · rw [L_S, L_S, List.append_assoc, at_left (by omega), at_left (by omega)]; omega
  · rw [ex, plainOf_whole wK hwK, plainOf_whole w hw, xK, xG, seenTo_sum, seenTo_sum]
    have hi : ((H.drop 12).take 8).length = 8 := by simp; omega
    have lk := (load_two (h := hdL H) (g := hdL G) (P := P) (ips := (H.drop 12).take 8) (a := a) (b := b) (c := c) (d := d) (a2 := (loadSeen (hdL H) (S P)).t.a) (b2 := (loadSeen (hdL H) (S P)).t.b) (c2 := (loadSeen (hdL H) (S P)).t.c) (d2 := (loadSeen (hdL H) (S P)).t.d) hw hi hb hd hb2 hd2).2 (by rw [ea, ec]; exact ips_self h20) rfl rfl
    rw [← eQ, ← iG, ← xG, ← eU] at lk
    congr 1
    refine Like.plain (H := K) (G := H) lk (by omega) (by omega) ?_
    rw [eK, eG, ea, ec]
    exact zero_back a c h20

/-- the places in which a packet that was changed may be another one -/
def okAt (x : Seen) (own k i : Nat) : Prop := (8 ≤ i ∧ i < 20 ∧ i ≠ 9) ∨ (x.t.p ≠ 1 ∧ own ≤ i ∧ i < own + 4) ∨ (x.t.p = 1 ∧ 0 < k ∧ own + 4 ≤ i ∧ i < own + 6) ∨ (k ≠ 0 ∧ (i = k ∨ i = k + 1))
theorem load_at {h : Hd} {P ips : List UInt8} {a b c d : Int} (hw : loadWhy h.p (S P) = 0) (own j : Nat) :
    at_ (loadNew (loadSeen h (S P)) P ips a b c d) j = at_ P j ∨ okAt (loadSeen h (S P)) own (sumAtL (loadSeen h (S P)) own) (own + j) := by
  rcases load_cases hw with ⟨hp, ht⟩ | ⟨hp, ht⟩ | ⟨hp, h8, ht⟩
  · have hz := tcpIs_len ht
    rw [seen_tcp hp hz]
    unfold loadNew sumAtL okAt
    rw [if_pos rfl, if_pos rfl]
    simp only
    by_cases hj : 4 ≤ j ∧ (j < 16 ∨ 18 ≤ j)
    · left; exact flow_at (by omega) (by omega) hj.1 hj.2
    · right; omega
  · have hz := udpIs_len ht
    rw [seen_udp hp hz]
    unfold loadNew sumAtL okAt
    rw [if_neg (by dsimp only; decide), if_pos rfl, if_neg (by dsimp only; decide), if_pos rfl]
    simp only
    by_cases hj : 4 ≤ j ∧ (j < 6 ∨ 8 ≤ j)
    · left; exact flow_at (by omega) (by omega) hj.1 hj.2
    · right; omega
  · have ask : ∀ id, at_ (queryOf P id) j = at_ P j ∨ (2 ≤ j ∧ j < 6) := by
      intro id
      by_cases hj : j < 2 ∨ 6 ≤ j
      · left; exact query_at h8 hj
      · right; omega
    rw [seen_msg hp h8]
    by_cases ha : qAsk (msgOf (S P)) = true
    · rw [if_pos ha]
      unfold loadNew sumAtL okAt
      rw [if_neg (by dsimp only; decide), if_neg (by dsimp only; decide), if_neg (by dsimp only; decide), if_pos rfl, if_neg (by dsimp only; decide), if_neg (by dsimp only; decide), if_neg (by dsimp only; decide)]
      rcases ask b with q | q
      · exact Or.inl q
      · by_cases h4 : j < 4
        · exact Or.inr (Or.inr (Or.inr (Or.inr ⟨by omega, by omega⟩)))
        · exact Or.inr (Or.inr (Or.inr (Or.inl ⟨rfl, by omega, by omega, by omega⟩)))
    rw [if_neg ha]
    by_cases hq : qIs (msgOf (S P)) = true
    · rw [if_pos hq]
      unfold loadNew sumAtL okAt
      rw [if_neg (by dsimp only; decide), if_neg (by dsimp only; decide), if_neg (by dsimp only; decide), if_neg (by dsimp only; decide), if_neg (by dsimp only; decide), if_neg (by dsimp only; decide), if_neg (by dsimp only; decide)]
      rcases ask d with q | q
      · exact Or.inl q
      · by_cases h4 : j < 4
        · exact Or.inr (Or.inr (Or.inr (Or.inr ⟨by omega, by omega⟩)))
        · exact Or.inr (Or.inr (Or.inr (Or.inl ⟨rfl, by omega, by omega, by omega⟩)))
    · rw [if_neg hq]
      left
      unfold loadNew
      rw [if_neg (by dsimp only; decide), if_neg (by dsimp only; decide), if_pos rfl]
theorem rw_seen {s : ByteArray} {a b c d : Int} (h : seenWhy s = 0) (hl : 1 < (seenOf s).l) (ha : 0 ≤ a ∧ a ≤ 4294967295) (hb : 0 ≤ b ∧ b ≤ 65535) (hc : 0 ≤ c ∧ c ≤ 4294967295) (hd : 0 ≤ d ∧ d ≤ 65535) (t : ByteArray) (ht : rwOut s a b c d = t) :
    rwWhy s = 0 ∧ seenWhy t = 0 ∧ seenOf t = seenTo (seenOf s) a b c d ∧ 20 ≤ t.size ∧ t.size ≤ s.size ∧ (∀ i, i < t.size → at_ (L s) i = at_ (L t) i ∨ okAt (seenOf s) (ipOwn (L t)).toNat (sumAtL (seenOf t) (ipOwn (L t)).toNat) i) := by
  obtain ⟨H, P, R, rfl, w, hw, hx, h8⟩ := taken_whole h
  rw [h8] at hl
  have h20 := w.h20
  obtain ⟨G, Q, wG, eG, eQ, y1, o1, zG, zQ, G8, G9, hwG, xG, iG⟩ := out_whole R (a := a) (b := b) (c := c) (d := d) w hw (by omega) ha hb hc hd
  rw [o1] at ht
  subst ht
  obtain ⟨e1, e2, e3⟩ := seen_whole [] wG
  rw [← app_nil] at e1 e2
  have hs : seenOf (S (G ++ Q)) = seenTo (seenOf (S (H ++ P ++ R))) a b c d := by rw [e2 hwG, xG, hx]
  have ho : (ipOwn (L (S (G ++ Q)))).toNat = H.length := by rw [L_S, own_app (by omega), wG.own, Int.toNat_natCast, zG]
  refine ⟨y1, by rw [e1]; exact hwG, hs, by rw [S_size]; simp; omega, by rw [S_size, S_size]; simp; omega, ?_⟩
  intro i hi
  rw [S_size] at hi
  simp at hi
  rw [hs, seenTo_sum, ho, hx, L_S, L_S, List.append_assoc]
  by_cases hH : i < H.length
  · rw [at_left hH, at_left (by omega)]
    by_cases hk : i < 8 ∨ i = 9 ∨ 20 ≤ i
    · left; rw [eG, head_at a c h20 hk]
    · right; left; omega
  · obtain ⟨j, rfl⟩ : ∃ j, i = H.length + j := ⟨i - H.length, by omega⟩
    rw [at_right (a := H) (by omega), at_right (a := G) (by omega), at_left (a := P) (by omega), zG, show H.length + j - H.length = j from by omega, eQ]
    rcases load_at (a := a) (b := b) (c := c) (d := d) (ips := (H.drop 12).take 8) (h := hdL H) hw H.length j with q | q
    · left; exact q.symm
    · right; exact q
end Go.Proofs.YtjeaknipmdfkdaaGreatDoor
end
