/- Several texts of this claim, one behind the other. -/
import Derived.Test.YtjeaknipmdfkdaaGreatDoorK19
import Derived.Test.YtjeaknipmdfkdaaGreatDoorK20
import Derived.Test.YtjeaknipmdfkdaaGreatDoorK6

section
/- Errors, and what they are about: plain laws of their sizes. No walk. -/
set_option linter.unusedVariables false
set_option linter.unusedSimpArgs false
namespace Go.Proofs.YtjeaknipmdfkdaaGreatDoor
open Go.RowKit

theorem seen_err {h : Hd} {l : ByteArray} (hw : loadWhy h.p l = 0) (hk : (loadSeen h l).k = 3) : h.p = 1 ∧ 8 ≤ l.size ∧ qErr (msgOf l) = true ∧ qIs (msgOf l) = false := by
  have p6 : h.p ≠ 6 := fun e => by unfold loadSeen at hk; rw [if_pos e] at hk; simp only at hk; split at hk <;> omega
  have p17 : h.p ≠ 17 := fun e => by unfold loadSeen at hk; rw [if_neg p6, if_pos e] at hk; simp only at hk; omega
  unfold loadWhy at hw
  rw [if_neg p6, if_neg p17] at hw
  by_cases p1 : h.p = 1
  · rw [if_pos p1] at hw
    by_cases h8 : l.size < 8
    · rw [if_pos h8] at hw; omega
    rw [if_neg h8] at hw
    unfold loadSeen at hk
    rw [if_neg p6, if_neg p17] at hk
    have hq : qIs (msgOf l) = false := by
      cases hq : qIs (msgOf l) with
      | false => rfl
      | true =>
        rw [hq] at hk
        split at hk
        · simp only at hk; omega
        · simp only [if_true] at hk; omega
    refine ⟨p1, by omega, ?_, hq⟩
    by_cases h : qIs (msgOf l) = true ∨ qErr (msgOf l) = true
    · rcases h with h | h
      · rw [hq] at h; cases h
      · exact h
    · rw [if_neg h] at hw; omega
  · rw [if_neg p1] at hw; omega
/-- an error, taken apart -/
theorem err_whole {s : ByteArray} (h : seenWhy s = 0) (hk : (seenOf s).k = 3) : ∃ H P R, s = S (H ++ P ++ R) ∧ Whole H P ∧ loadWhy (at_ H 9) (S P) = 0 ∧ seenOf s = loadSeen (hdL H) (S P) ∧ (seenOf s).l = at_ H 8 ∧ ipRest s = S P ∧ at_ H 9 = 1 ∧ 8 ≤ P.length ∧ qErr (msgOf (S P)) = true ∧ qIs (msgOf (S P)) = false := by
  obtain ⟨H, P, R, rfl, w, h1, h2, h3⟩ := taken_whole h
  obtain ⟨_, _, e3⟩ := whole_to R w
  rw [h2] at hk
  obtain ⟨q1, q2, q3, q4⟩ := seen_err (h := hdL H) (l := S P) h1 hk
  exact ⟨H, P, R, rfl, w, h1, h2, h3, e3, q1, by rwa [S_size] at q2, q3, q4⟩
theorem ems_seen {s : ByteArray} (h : emsWhy s = 0) : seenWhy s = 0 ∧ (seenOf s).k = 3 ∧ emWhy (L (emData s)) = 0 := by
  unfold emsWhy at h
  by_cases h1 : seenWhy s = 0
  · rw [if_neg (by omega)] at h
    by_cases h2 : (seenOf s).k = 3
    · rw [if_neg (by omega)] at h
      exact ⟨h1, h2, h⟩
    · rw [if_pos h2] at h; omega
  · rw [if_pos h1] at h; omega
theorem emData_of {s : ByteArray} {P : List UInt8} (h : ipRest s = S P) : emData s = S (P.drop 8) ∧ (msgOf (ipRest s)).n = be16 P 2 := by
  unfold emData
  rw [h]
  refine ⟨?_, rfl⟩
  show (S P).extract 8 (S P).size = _
  exact eq_S (by rw [L_from, L_S])
theorem emWhy_parts {d : List UInt8} (h : emWhy d = 0) : 20 ≤ emAt d ∧ emAt d ≤ 60 ∧ emAt d + 8 ≤ d.length ∧ at_ d 0 / 16 = 4 ∧ be16 d 6 % 8192 = 0 ∧ (at_ d 9 = 6 ∨ at_ d 9 = 17 ∨ (at_ d 9 = 1 ∧ qIs (emMsg d) = true)) := by
  have hb := at_bd d 0
  have he : ((emAt d : Nat) : Int) = emEnd d := by unfold emAt emEnd; omega
  have he2 : emEnd d ≤ 60 := by unfold emEnd; omega
  unfold emWhy at h
  by_cases h1 : (d.length : Int) < 20 ∨ at_ d 0 / 16 ≠ 4
  · rw [if_pos h1] at h; omega
  rw [if_neg h1] at h
  by_cases h2 : emEnd d < 20 ∨ (d.length : Int) - 8 < emEnd d ∨ be16 d 6 % 8192 ≠ 0
  · rw [if_pos h2] at h; omega
  rw [if_neg h2] at h
  refine ⟨by omega, by omega, by omega, by omega, by omega, ?_⟩
  by_cases h3 : at_ d 9 = 6 ∨ at_ d 9 = 17
  · omega
  rw [if_neg h3] at h
  by_cases h4 : at_ d 9 = 1
  · rw [if_neg (by omega)] at h
    cases hq : qIs (emMsg d) with
    | true => exact Or.inr (Or.inr ⟨h4, rfl⟩)
    | false => rw [hq, if_neg (by decide)] at h; omega
  · rw [if_pos h4] at h; omega
theorem be16_int (d : List UInt8) (k : Nat) : 0 ≤ be16 d k ∧ be16 d k ≤ 65535 := be16_bd d k
theorem emTup_ok (d : List UInt8) : (emTup d).Ok := by
  have h9 := at_bd d 9
  have z : (0 : Int) ≤ 0 ∧ (0 : Int) ≤ 65535 := by decide
  unfold emTup
  split
  · exact ⟨h9, be32_bd _ _, be16_bd _ _, be32_bd _ _, be16_bd _ _⟩
  · split
    · exact ⟨h9, be32_bd _ _, be16_bd _ _, be32_bd _ _, z⟩
    · exact ⟨h9, be32_bd _ _, z, be32_bd _ _, be16_bd _ _⟩
theorem emTup_p (d : List UInt8) : (emTup d).p = at_ d 9 := by unfold emTup; split; rfl; split <;> rfl
theorem emNew_len {d : List UInt8} (h : emWhy d = 0) (a b c dd : Int) : (emNew d a b c dd).length = d.length := by
  obtain ⟨h1, h2, h3, _⟩ := emWhy_parts h
  exact emCh_len h3 (by omega)
/-- how long the changed error is -/
theorem tr_size {s : ByteArray} {a b c d : Int} (h : trWhy s = 0) (ha : 0 ≤ a ∧ a ≤ 4294967295) (hb : 0 ≤ b ∧ b ≤ 65535) (hc : 0 ≤ c ∧ c ≤ 4294967295) (hd : 0 ≤ d ∧ d ≤ 65535) :
    ∃ k : Nat, ((k : Nat) : Int) = at_ (L s) 0 % 16 * 4 ∧ 20 ≤ k ∧ k ≤ 60 ∧ (rwOut s a b c d).size = k + 8 + (emData s).size ∧ (rwOut s a b c d).size ≤ 2048 ∧ 1 ≤ s.size := by
  have hes : emsWhy s = 0 := by
    by_cases h1 : emsWhy s = 0
    · exact h1
    · unfold trWhy at h; rw [if_pos h1] at h; exact h
  have hrw : rwWhy s = 0 := by unfold trWhy at h; rw [if_neg (by omega)] at h; exact h
  obtain ⟨e1, e2, e3⟩ := ems_seen hes
  obtain ⟨H, P, R, hs, w, h1, h2, h3, h4, h5, h6, h7, h8⟩ := err_whole e1 e2
  have hl : 2 ≤ at_ H 8 := by
    unfold rwWhy at hrw
    rw [if_neg (by omega)] at hrw
    by_cases hz : (seenOf s).l < 2
    · rw [if_pos hz] at hrw; omega
    · omega
  subst hs
  obtain ⟨G, Q, _, _, _, _, ho, hg, hq, _⟩ := out_whole R w h1 hl ha hb hc hd
  have h60 := w.h60
  have h20 := w.h20
  have hbig := w.big
  have hown := w.own
  refine ⟨H.length, ?_, h20, h60, ?_, ?_, ?_⟩
  · rw [← hown, L_S, List.append_assoc]
    unfold ipOwn
    rw [at_left (by omega)]
  · rw [ho, S_size, (emData_of h4).1, S_size, List.length_append, List.length_drop, hg, hq]; omega
  · rw [ho, S_size, List.length_append, hg, hq]; exact hbig
  · rw [S_size]; simp; omega
end Go.Proofs.YtjeaknipmdfkdaaGreatDoor
end

section
/- What an error is about, changed, as the document says. Plain. -/
set_option linter.unusedVariables false
set_option linter.unusedSimpArgs false
namespace Go.Proofs.YtjeaknipmdfkdaaGreatDoor
open Go.RowKit

/-- the inner bytes by a change, as the document says -/
def crOf (l ips : List UInt8) (p : Int) (q : Bool) (a b c d : Int) : List UInt8 :=
  if p = 17 then flowNew l ips a b c d 6 else if p = 6 ∧ 18 ≤ l.length then flowNew l ips a b c d 16 else if p = 6 then putW [b, d] ++ l.drop 4 else queryOf l (if q = true then b else d)
/-- the inner header by a change: its addresses; then its sum -/
def dtHd (l : List UInt8) (a c : Int) : List UInt8 := (l.take (emAt l)).take 12 ++ (ipsOf a c ++ (l.take (emAt l)).drop 20)
def dtSum (l : List UInt8) (a c : Int) : Int := updates (be16 l 10) ((l.drop 12).take 8) (((dtHd l a c).drop 12).take 8)
def dtOf (l : List UInt8) (a b c d : Int) : List UInt8 :=
  (dtHd l a c).take 10 ++ (put16 (dtSum l a c) ++ (dtHd l a c).drop 12) ++ crOf (l.drop (emAt l)) ((l.drop 12).take 8) (emTup l).p (emAsk l) a b c d
theorem crOf_len {l ips : List UInt8} {p : Int} {q : Bool} {a b c d : Int} (h : 8 ≤ l.length) : (crOf l ips p q a b c d).length = l.length := by
  unfold crOf
  split
  · unfold flowNew
    rw [lay_length (by rw [List.length_append, List.length_drop, putW2_len]; omega), List.length_append, List.length_drop, putW2_len]; omega
  · split
    · unfold flowNew
      rw [lay_length (by rw [List.length_append, List.length_drop, putW2_len]; omega), List.length_append, List.length_drop, putW2_len]; omega
    · split
      · rw [List.length_append, List.length_drop, putW2_len]; omega
      · unfold queryOf
        rw [lay_length (by rw [lay_length (by omega)]; omega), lay_length (by omega)]
end Go.Proofs.YtjeaknipmdfkdaaGreatDoor
end

section
/- The document's Data is the program's: a plain law. -/
set_option linter.unusedVariables false
set_option linter.unusedSimpArgs false
namespace Go.Proofs.YtjeaknipmdfkdaaGreatDoor
open Go.RowKit

theorem lay_app {a p : List UInt8} {k : Nat} {n : Int} (h : k + 2 ≤ a.length) : lay (a ++ p) k n = lay a k n ++ p := by
  unfold lay
  rw [List.take_append_of_le_length (by omega), List.drop_append_of_le_length (by omega)]
  simp only [List.append_assoc]
theorem em_split {l : List UInt8} {e : Nat} (h : 20 ≤ e) (h2 : e ≤ l.length) (a c : Int) : l.take 12 ++ (ipsOf a c ++ l.drop 20) = ((l.take e).take 12 ++ (ipsOf a c ++ (l.take e).drop 20)) ++ l.drop e := by
  have h3 : (l.take e).take 12 = l.take 12 := by rw [List.take_take]; congr 1; omega
  have h4 : l.drop 20 = (l.take e).drop 20 ++ l.drop e := by
    conv => lhs; rw [← List.take_append_drop e l]
    rw [List.drop_append_of_le_length (by rw [List.length_take]; omega)]
  rw [h3, h4]
  simp only [List.append_assoc]
theorem dtHd_len {l : List UInt8} (a c : Int) (h : 20 ≤ emAt l) (h2 : emAt l ≤ l.length) : (dtHd l a c).length = emAt l := by
  unfold dtHd
  simp only [List.length_append, List.length_take, List.length_drop, ipsOf_len]; omega
theorem dtSum_is {l : List UInt8} (a c : Int) (h : 20 ≤ emAt l) (h2 : emAt l ≤ l.length) : dtSum l a c = updates (be16 l 10) ((l.drop 12).take 8) (ipsOf a c) := by
  unfold dtSum dtHd
  have h3 : ((l.take (emAt l)).take 12).length = 12 := by simp only [List.length_take]; omega
  have h5 : ((l.take (emAt l)).take 12).drop 12 = [] := List.drop_eq_nil_of_le (by omega)
  rw [List.drop_append_of_le_length (by omega), h5, List.nil_append, List.take_append_of_le_length (Nat.le_of_eq (ipsOf_len a c).symm), List.take_of_length_le (Nat.le_of_eq (ipsOf_len a c))]
theorem emMid_is {l : List UInt8} (a c : Int) (h : 20 ≤ emAt l) (h2 : emAt l ≤ l.length) : emMid l a c = lay (dtHd l a c) 10 (dtSum l a c) ++ l.drop (emAt l) := by
  unfold emMid
  rw [em_split h h2, ← dtSum_is a c h h2]
  exact lay_app (by have := dtHd_len (l := l) a c h h2; unfold dtHd at this; omega)
theorem be16_app {a p : List UInt8} {k j : Nat} (h : k = a.length + j) : be16 (a ++ p) k = be16 p j := by
  have : p = (a ++ p).drop a.length := by rw [List.drop_append_of_le_length (Nat.le_refl _), List.drop_length, List.nil_append]
  rw [h]
  conv => rhs; rw [this]
  rw [be16_drop]
theorem emFlowL_app {G P : List UInt8} {e : Nat} (h : G.length = e) (b d : Int) : emFlowL (G ++ P) e b d = G ++ (putW [b, d] ++ P.drop 4) := by
  unfold emFlowL
  rw [List.take_append_of_le_length (by omega), List.take_of_length_le (by omega), List.drop_append, List.drop_eq_nil_of_le (by omega), List.nil_append, show e + 4 - G.length = 4 from by omega]
theorem emFlow_app {G P : List UInt8} {e : Nat} {t : Tup} {ips : List UInt8} (a b c d : Int) {k : Nat} (h : G.length = e) (hk : 4 ≤ k) (hp : (t.p = 17 ∧ k = 6) ∨ (t.p = 6 ∧ k = 16)) (hP : k + 2 ≤ P.length) (hi : ipsOf t.a t.c = ips) (h4 : putW [t.b, t.d] = P.take 4) :
    emFlow (G ++ P) e t a b c d k = G ++ flowNew P ips a b c d k := by
  have hl : (putW [b, d] ++ P.drop 4).length = P.length := by simp only [List.length_append, List.length_drop, putW2_len]; omega
  have hw : get16 (emFlowL (G ++ P) e b d) ((e + k : Nat) : Int) = be16 P k := by
    rw [emFlowL_app h, get16_nat (by rw [List.length_append, hl]; omega), be16_app (j := k) (by omega), be16_app (a := putW [b, d]) (j := k - 4) (by rw [putW2_len]; omega), be16_drop]
    congr 1; omega
  have hx : be16 (putW [b, d] ++ P.drop 4) k = be16 P k := by
    rw [be16_app (a := putW [b, d]) (j := k - 4) (by rw [putW2_len]; omega), be16_drop]
    congr 1; omega
  have hn : emFlowN (G ++ P) e t a b c d k = flowSum P ips a b c d k := by unfold emFlowN flowSum; rw [hw, hi, h4]
  unfold emFlow flowNew
  rw [hw, hn, emFlowL_app h, app_lay (k := e + k) (by omega)]
  have hlen : e + k + 2 ≤ (G ++ P).length := by rw [List.length_append]; omega
  rw [if_pos hlen]
  rcases hp with ⟨hp, rfl⟩ | ⟨hp, rfl⟩
  · by_cases hz : be16 P 6 = 0
    · rw [if_pos ⟨hp, hz⟩]
      unfold flowFix
      rw [if_pos rfl, if_pos hz, ← app_lay (k := e + 6) (j := 6) (by omega), ← hz, ← hx, lay_self (by rw [hl]; omega)]
    · rw [if_neg (fun h => hz h.2)]
      unfold flowFix
      rw [if_pos rfl, if_neg hz]
      by_cases hn0 : flowSum P ips a b c d 6 = 0
      · rw [if_pos ⟨hp, hn0⟩, if_pos hn0]
      · rw [if_neg (fun h => hn0 h.2), if_neg hn0]
  · rw [if_neg (fun h => by omega), if_neg (fun h => by omega)]
    unfold flowFix
    rw [if_neg (by decide)]
theorem emMsg_app {G P : List UInt8} {e : Nat} (id : Int) (h : G.length = e) (hP : 8 ≤ P.length) : emMsgN (G ++ P) e id = G ++ queryOf P id := by
  unfold emMsgN queryOf
  rw [be16_app (j := 2) (by omega), be16_app (j := 4) (by omega), ← app_lay (k := e + 4) (j := 4) (by omega), ← app_lay (k := e + 2) (j := 2) (by omega)]
theorem dtOf_em {l : List UInt8} (hem : emWhy l = 0) (a b c d : Int) : dtOf l a b c d = emNew l a b c d := by
  obtain ⟨p1, p2, p3, _, _, p6⟩ := emWhy_parts hem
  have hm := emMid_is (l := l) a c p1 (by omega)
  have hG : (lay (dtHd l a c) 10 (dtSum l a c)).length = emAt l := by rw [lay_length (by rw [dtHd_len a c p1 (by omega)]; omega), dtHd_len a c p1 (by omega)]
  have hP : 8 ≤ (l.drop (emAt l)).length := by rw [List.length_drop]; omega
  have hd : dtOf l a b c d = lay (dtHd l a c) 10 (dtSum l a c) ++ crOf (l.drop (emAt l)) ((l.drop 12).take 8) (emTup l).p (emAsk l) a b c d := by
    unfold dtOf lay
    simp only [List.append_assoc]
  rw [hd]
  unfold emNew emCh
  rw [hm]
  generalize lay (dtHd l a c) 10 (dtSum l a c) = G at *
  rw [emTup_p]
  have hflow : at_ l 9 = 6 ∨ at_ l 9 = 17 → ipsOf (emTup l).a (emTup l).c = (l.drop 12).take 8 ∧ putW [(emTup l).b, (emTup l).d] = (l.drop (emAt l)).take 4 := by
    intro h
    unfold emTup
    rw [if_pos h]
    refine ⟨ips_self (by omega), ?_⟩
    have h1 := ports_self (l := l.drop (emAt l)) (by omega)
    rw [be16_drop, be16_drop, Nat.add_zero] at h1
    have h2 := congrArg (List.take 4) h1
    rw [List.take_append_of_le_length (Nat.le_of_eq (putW2_len _ _).symm), List.take_of_length_le (Nat.le_of_eq (putW2_len _ _))] at h2
    exact h2
  unfold crOf
  by_cases h6 : at_ l 9 = 6
  · rw [if_pos h6, if_neg (by omega)]
    obtain ⟨q1, q2⟩ := hflow (Or.inl h6)
    by_cases h18 : 18 ≤ (l.drop (emAt l)).length
    · rw [if_pos ⟨h6, h18⟩, if_pos h6]
      exact (emFlow_app a b c d hG (by decide) (Or.inr ⟨by rw [emTup_p]; exact h6, rfl⟩) (by omega) q1 q2).symm
    · rw [if_neg (fun h => h18 h.2), if_pos h6]
      unfold emFlow
      rw [if_neg (fun h => by have := h.1; rw [emTup_p] at this; omega), if_neg (by rw [List.length_append]; omega), emFlowL_app hG]
  · rw [if_neg h6]
    by_cases h17 : at_ l 9 = 17
    · rw [if_pos h17, if_pos h17, if_neg h6]
      obtain ⟨q1, q2⟩ := hflow (Or.inr h17)
      exact (emFlow_app a b c d hG (by decide) (Or.inl ⟨by rw [emTup_p]; exact h17, rfl⟩) (by omega) q1 q2).symm
    · rw [if_neg h17, if_neg h17, if_neg (fun h => h6 h.1), if_neg h6]
      exact (emMsg_app _ hG hP).symm
end Go.Proofs.YtjeaknipmdfkdaaGreatDoor
end
