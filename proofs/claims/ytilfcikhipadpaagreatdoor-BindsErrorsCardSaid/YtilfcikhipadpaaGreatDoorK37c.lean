/- Several texts of this claim, one behind the other. -/
import Derived.Test.YtilfcikhipadpaaGreatDoorK32d

section
/- What an error is about, changed, as the document says. Plain. -/
set_option linter.unusedVariables false
set_option linter.unusedSimpArgs false
namespace Go.Proofs.YtilfcikhipadpaaGreatDoor
open Go.RowKit

/-- the inner bytes by a change, as the document says -/
def crOf (l ips : List UInt8) (p : Int) (q : Bool) (a b c d : Int) : List UInt8 :=
  if p = 17 then flowNew l ips a b c d 6 else if p = 6 ∧ 18 ≤ l.length then flowNew l ips a b c d 16 else if p = 6 then putW [b, d] ++ l.drop 4 else queryOf l (if q = true then b else d)
/-- the inner header by a change: its addresses; then its sum -/
def dtHd (l : List UInt8) (a c : Int) : List UInt8 := (l.take (emAt l)).take 12 ++ (ipsOf a c ++ (l.take (emAt l)).drop 20)
def dtSum (l : List UInt8) (a c : Int) : Int := updates (be16 l 10) ((l.drop 12).take 8) (((dtHd l a c).drop 12).take 8)
def dtOf (l : List UInt8) (a b c d : Int) : List UInt8 :=
  (dtHd l a c).take 10 ++ (put16 (dtSum l a c) ++ (dtHd l a c).drop 12) ++ crOf (l.drop (emAt l)) ((l.drop 12).take 8) (emTup l).p (emAsk l) a b c d
end Go.Proofs.YtilfcikhipadpaaGreatDoor
end

section
/- The document's Data is the program's: a plain law. -/
set_option linter.unusedVariables false
set_option linter.unusedSimpArgs false
namespace Go.Proofs.YtilfcikhipadpaaGreatDoor
open Go.RowKit

theorem lay_app {a p : List UInt8} {k : Nat} {n : Int} (h : k + 2 ≤ a.length) : lay (a ++ p) k n = lay a k n ++ p := by
  unfold lay
  rw [List.take_append_of_le_length (by omega), List.drop_append_of_le_length (by omega)]
  simp only [List.append_assoc]
theorem em_split {l : List UInt8} {e : Nat} (h : 20 ≤ e) (h2 : e ≤ l.length) (a c : Int) : l.take 12 ++ (ipsOf a c ++ l.drop 20) = ((l.take e).take 12 ++ (ipsOf a c ++ (l.take e).drop 20)) ++ l.drop e := by
  have h3 : (l.take e).take 12 = l.take 12 := by rw [List.take_take]; congr 1; omega
  have h4 : l.drop 20 = (l.take e).drop 20 ++ l.drop e := by
    conv => lhs; rw [← List.take_append_drop e l]
    rw [List.drop_append_of_le_length (by rw [List.length_take]; omega)]
  rw [h3, h4]
  simp only [List.append_assoc]
theorem dtHd_len {l : List UInt8} (a c : Int) (h : 20 ≤ emAt l) (h2 : emAt l ≤ l.length) : (dtHd l a c).length = emAt l := by
  unfold dtHd
  simp only [List.length_append, List.length_take, List.length_drop, ipsOf_len]; omega
theorem dtSum_is {l : List UInt8} (a c : Int) (h : 20 ≤ emAt l) (h2 : emAt l ≤ l.length) : dtSum l a c = updates (be16 l 10) ((l.drop 12).take 8) (ipsOf a c) := by
  unfold dtSum dtHd
  have h3 : ((l.take (emAt l)).take 12).length = 12 := by simp only [List.length_take]; omega
  have h5 : ((l.take (emAt l)).take 12).drop 12 = [] := List.drop_eq_nil_of_le (by omega)
  rw [List.drop_append_of_le_length (by omega), h5, List.nil_append, List.take_append_of_le_length (Nat.le_of_eq (ipsOf_len a c).symm), List.take_of_length_le (Nat.le_of_eq (ipsOf_len a c))]
theorem emMid_is {l : List UInt8} (a c : Int) (h : 20 ≤ emAt l) (h2 : emAt l ≤ l.length) : emMid l a c = lay (dtHd l a c) 10 (dtSum l a c) ++ l.drop (emAt l) := by
  unfold emMid
  rw [em_split h h2, ← dtSum_is a c h h2]
  exact lay_app (by have := dtHd_len (l := l) a c h h2; unfold dtHd at this; omega)
theorem be16_app {a p : List UInt8} {k j : Nat} (h : k = a.length + j) : be16 (a ++ p) k = be16 p j := by
  have : p = (a ++ p).drop a.length := by rw [List.drop_append_of_le_length (Nat.le_refl _), List.drop_length, List.nil_append]
  rw [h]
  conv => rhs; rw [this]
  rw [be16_drop]
theorem emFlowL_app {G P : List UInt8} {e : Nat} (h : G.length = e) (b d : Int) : emFlowL (G ++ P) e b d = G ++ (putW [b, d] ++ P.drop 4) := by
  unfold emFlowL
  rw [List.take_append_of_le_length (by omega), List.take_of_length_le (by omega), List.drop_append, List.drop_eq_nil_of_le (by omega), List.nil_append, show e + 4 - G.length = 4 from by omega]
theorem emFlow_app {G P : List UInt8} {e : Nat} {t : Tup} {ips : List UInt8} (a b c d : Int) {k : Nat} (h : G.length = e) (hk : 4 ≤ k) (hp : (t.p = 17 ∧ k = 6) ∨ (t.p = 6 ∧ k = 16)) (hP : k + 2 ≤ P.length) (hi : ipsOf t.a t.c = ips) (h4 : putW [t.b, t.d] = P.take 4) :
    emFlow (G ++ P) e t a b c d k = G ++ flowNew P ips a b c d k := by
  have hl : (putW [b, d] ++ P.drop 4).length = P.length := by simp only [List.length_append, List.length_drop, putW2_len]; omega
  have hw : get16 (emFlowL (G ++ P) e b d) ((e + k : Nat) : Int) = be16 P k := by
    rw [emFlowL_app h, get16_nat (by rw [List.length_append, hl]; omega), be16_app (j := k) (by omega), be16_app (a := putW [b, d]) (j := k - 4) (by rw [putW2_len]; omega), be16_drop]
    congr 1; omega
  have hx : be16 (putW [b, d] ++ P.drop 4) k = be16 P k := by
    rw [be16_app (a := putW [b, d]) (j := k - 4) (by rw [putW2_len]; omega), be16_drop]
    congr 1; omega
  have hn : emFlowN (G ++ P) e t a b c d k = flowSum P ips a b c d k := by unfold emFlowN flowSum; rw [hw, hi, h4]
  unfold emFlow flowNew
  rw [hw, hn, emFlowL_app h, app_lay (k := e + k) (by omega)]
  have hlen : e + k + 2 ≤ (G ++ P).length := by rw [List.length_append]; omega
  rw [if_pos hlen]
  rcases hp with ⟨hp, rfl⟩ | ⟨hp, rfl⟩
  · by_cases hz : be16 P 6 = 0
    · rw [if_pos ⟨hp, hz⟩]
      unfold flowFix
      rw [if_pos rfl, if_pos hz, ← app_lay (k := e + 6) (j := 6) (by omega), ← hz, ← hx, lay_self (by rw [hl]; omega)]
    · rw [if_neg (fun h => hz h.2)]
      unfold flowFix
      rw [if_pos rfl, if_neg hz]
      by_cases hn0 : flowSum P ips a b c d 6 = 0
      · rw [if_pos ⟨hp, hn0⟩, if_pos hn0]
      · rw [if_neg (fun h => hn0 h.2), if_neg hn0]
  · rw [if_neg (fun h => by omega), if_neg (fun h => by omega)]
    unfold flowFix
    rw [if_neg (by decide)]
theorem emMsg_app {G P : List UInt8} {e : Nat} (id : Int) (h : G.length = e) (hP : 8 ≤ P.length) : emMsgN (G ++ P) e id = G ++ queryOf P id := by
  unfold emMsgN queryOf
  rw [be16_app (j := 2) (by omega), be16_app (j := 4) (by omega), ← app_lay (k := e + 4) (j := 4) (by omega), ← app_lay (k := e + 2) (j := 2) (by omega)]
theorem dtOf_em {l : List UInt8} (hem : emWhy l = 0) (a b c d : Int) : dtOf l a b c d = emNew l a b c d := by
  obtain ⟨p1, p2, p3, _, _, p6⟩ := emWhy_parts hem
  have hm := emMid_is (l := l) a c p1 (by omega)
  have hG : (lay (dtHd l a c) 10 (dtSum l a c)).length = emAt l := by rw [lay_length (by rw [dtHd_len a c p1 (by omega)]; omega), dtHd_len a c p1 (by omega)]
  have hP : 8 ≤ (l.drop (emAt l)).length := by rw [List.length_drop]; omega
  have hd : dtOf l a b c d = lay (dtHd l a c) 10 (dtSum l a c) ++ crOf (l.drop (emAt l)) ((l.drop 12).take 8) (emTup l).p (emAsk l) a b c d := by
    unfold dtOf lay
    simp only [List.append_assoc]
  rw [hd]
  unfold emNew emCh
  rw [hm]
  generalize lay (dtHd l a c) 10 (dtSum l a c) = G at *
  rw [emTup_p]
  have hflow : at_ l 9 = 6 ∨ at_ l 9 = 17 → ipsOf (emTup l).a (emTup l).c = (l.drop 12).take 8 ∧ putW [(emTup l).b, (emTup l).d] = (l.drop (emAt l)).take 4 := by
    intro h
    unfold emTup
    rw [if_pos h]
    refine ⟨ips_self (by omega), ?_⟩
    have h1 := ports_self (l := l.drop (emAt l)) (by omega)
    rw [be16_drop, be16_drop, Nat.add_zero] at h1
    have h2 := congrArg (List.take 4) h1
    rw [List.take_append_of_le_length (Nat.le_of_eq (putW2_len _ _).symm), List.take_of_length_le (Nat.le_of_eq (putW2_len _ _))] at h2
    exact h2
  unfold crOf
  by_cases h6 : at_ l 9 = 6
  · rw [if_pos h6, if_neg (by omega)]
    obtain ⟨q1, q2⟩ := hflow (Or.inl h6)
    by_cases h18 : 18 ≤ (l.drop (emAt l)).length
    · rw [if_pos ⟨h6, h18⟩, if_pos h6]
      exact (emFlow_app a b c d hG (by decide) (Or.inr ⟨by rw [emTup_p]; exact h6, rfl⟩) (by omega) q1 q2).symm
    · rw [if_neg (fun h => h18 h.2), if_pos h6]
      unfold emFlow
      rw [if_neg (fun h => by have := h.1; rw [emTup_p] at this; omega), if_neg (by rw [List.length_append]; omega), emFlowL_app hG]
  · rw [if_neg h6]
    by_cases h17 : at_ l 9 = 17
    · rw [if_pos h17, if_pos h17, if_neg h6]
      obtain ⟨q1, q2⟩ := hflow (Or.inr h17)
      exact (emFlow_app a b c d hG (by decide) (Or.inl ⟨by rw [emTup_p]; exact h17, rfl⟩) (by omega) q1 q2).symm
    · rw [if_neg h17, if_neg h17, if_neg (fun h => h6 h.1), if_neg h6]
      exact (emMsg_app _ hG hP).symm
end Go.Proofs.YtilfcikhipadpaaGreatDoor
end

section
/- Packets, changed: whether what they carry has a right sum, plain. No walk. -/
set_option linter.unusedVariables false
namespace Go.Proofs.YtilfcikhipadpaaGreatDoor
open Go.RowKit

theorem ips_ev (a b : Int) : (ipsOf a b).length % 2 = 0 := by rw [show (ipsOf a b).length = 8 from rfl]
theorem holds_same {ls ms : List (List UInt8)} (h : (tot (ls.flatMap words) - tot (ms.flatMap words)) % 65535 = 0) (h1 : tot (ls.flatMap words) ≠ 0) (h2 : tot (ms.flatMap words) ≠ 0) : holds ls = holds ms := by
  rw [Bool.eq_iff_iff, holds_iff, holds_iff]
  omega
theorem lay_tot2 {l : List UInt8} {k : Nat} {n : Int} (h : k + 2 ≤ l.length) (h2 : k % 2 = 0) (hn : 0 ≤ n ∧ n ≤ 65535) : tot (words (lay l k n)) = tot (words l) - be16 l k + n := by
  have e := lay_tot h h2 (be16_bd l k)
  rw [lay_self h] at e
  rw [lay_tot h h2 hn, e]; omega
end Go.Proofs.YtilfcikhipadpaaGreatDoor
end

section
/- What an error is about, changed: plain laws. No walk. -/
set_option linter.unusedVariables false
set_option linter.unusedSimpArgs false
namespace Go.Proofs.YtilfcikhipadpaaGreatDoor
open Go.RowKit

theorem tot_ne {l : List UInt8} (h : at_ l 0 ≠ 0) (h2 : 2 ≤ l.length) : tot (words l) ≠ 0 := by
  match l, h, h2 with
  | x :: y :: r, h, _ =>
    have hx : at_ (x :: y :: r) 0 = (x.toNat : Int) := rfl
    have q := tot_nonneg (words_bd r)
    show tot (((x.toNat : Int) * 256 + (y.toNat : Int)) :: words r) ≠ 0
    rw [tot_cons]; omega
/-- the header ahead, changed; what follows, changed -/
def emHd (l : List UInt8) (a c : Int) : List UInt8 := lay (dtHd l a c) 10 (dtSum l a c)
def emLo (l : List UInt8) (a b c d : Int) : List UInt8 := crOf (l.drop (emAt l)) ((l.drop 12).take 8) (emTup l).p (emAsk l) a b c d
theorem em_parts {l : List UInt8} (hem : emWhy l = 0) (a b c d : Int) : emNew l a b c d = emHd l a c ++ emLo l a b c d := by
  rw [← dtOf_em hem]
  unfold dtOf emHd emLo lay
  simp only [List.append_assoc]
section
variable {l : List UInt8} (a c : Int) (h : 20 ≤ emAt l) (h2 : emAt l ≤ l.length)
include h h2
theorem emHd_len : (emHd l a c).length = emAt l := by
  unfold emHd; rw [lay_length (by rw [dtHd_len a c h h2]; omega), dtHd_len a c h h2]
theorem em_z12 : ((l.take (emAt l)).take 12).length = 12 := by simp; omega
theorem dtHd_at {i : Nat} (hi : i < 12 ∨ 20 ≤ i) (he : i < emAt l) : at_ (dtHd l a c) i = at_ l i := by
  have z12 := em_z12 h h2
  unfold dtHd
  rcases hi with hi | hi
  · rw [at_left (by omega), at_take hi, at_take he]
  · rw [at_right (by omega), at_right (by rw [z12, ipsOf_len]; omega), at_drop, at_take (by rw [z12, ipsOf_len]; omega), z12, ipsOf_len]
    congr 1; omega
theorem emHd_at {i : Nat} (hi : i < 10 ∨ 20 ≤ i) (he : i < emAt l) : at_ (emHd l a c) i = at_ l i := by
  unfold emHd
  rw [at_lay (by rw [dtHd_len a c h h2]; omega) (by omega), dtHd_at a c h h2 (by omega) he]
theorem emHd_is : emHd l a c = ((dtHd l a c).take 10 ++ put16 (dtSum l a c)) ++ (put32 a ++ (put32 c ++ (l.take (emAt l)).drop 20)) := by
  have z12 := em_z12 h h2
  have e : (dtHd l a c).drop 12 = put32 a ++ (put32 c ++ (l.take (emAt l)).drop 20) := by
    unfold dtHd ipsOf; rw [List.drop_left' z12]; simp only [List.append_assoc]
  unfold emHd lay
  rw [e]
theorem emHd_ips (ha : 0 ≤ a ∧ a ≤ 4294967295) (hc : 0 ≤ c ∧ c ≤ 4294967295) : be32 (emHd l a c) 12 = a ∧ be32 (emHd l a c) 16 = c := by
  have z : ((dtHd l a c).take 10 ++ put16 (dtSum l a c)).length = 12 := by
    rw [List.length_append, put16_length, List.length_take, dtHd_len a c h h2]; omega
  rw [emHd_is a c h h2]
  refine ⟨?_, ?_⟩
  · rw [be32_right (by omega), z, be32_put _ _ ha.1 ha.2]
  · rw [be32_right (by omega), z, show (16 - 12 : Nat) = (put32 a).length from rfl, be32_right (Nat.le_refl _), Nat.sub_self, be32_put _ _ hc.1 hc.2]
theorem emHd_tot : (tot (words (emHd l a c)) - tot (words (l.take (emAt l)))) % 65535 = 0 := by
  have z12 := em_z12 h h2
  have hz := dtHd_len a c h h2
  have z8 : ((l.drop 12).take 8).length = 8 := by simp; omega
  have e : l.take (emAt l) = (l.take (emAt l)).take 12 ++ ((l.drop 12).take 8 ++ (l.take (emAt l)).drop 20) := by
    have q1 : (l.drop 12).take 8 = ((l.take (emAt l)).drop 12).take 8 := by
      rw [List.drop_take, List.take_take, show min 8 (emAt l - 12) = 8 from by omega]
    have q2 : (l.take (emAt l)).drop 20 = ((l.take (emAt l)).drop 12).drop 8 := by rw [List.drop_drop]
    rw [q1, q2, List.take_append_drop, List.take_append_drop]
  have t1 : tot (words (l.take (emAt l))) = tot (words ((l.take (emAt l)).take 12)) + (tot (words ((l.drop 12).take 8)) + tot (words ((l.take (emAt l)).drop 20))) := by
    conv => lhs; rw [e]
    rw [words_even _ _ (by omega), tot_append, words_even _ _ (by omega), tot_append]
  have t2 : tot (words (dtHd l a c)) = tot (words ((l.take (emAt l)).take 12)) + (tot (words (ipsOf a c)) + tot (words ((l.take (emAt l)).drop 20))) := by
    unfold dtHd
    rw [words_even _ _ (by omega), tot_append, words_even _ _ (ips_ev a c), tot_append]
  have hn : dtSum l a c = updates (be16 l 10) ((l.drop 12).take 8) (ipsOf a c) := dtSum_is a c h h2
  have hnb : 0 ≤ dtSum l a c ∧ dtSum l a c ≤ 65535 := by rw [hn]; exact updates_bd (be16_bd _ _)
  have hb : be16 (dtHd l a c) 10 = be16 l 10 := by
    unfold be16
    rw [dtHd_at a c h h2 (by omega) (by omega), dtHd_at a c h h2 (by omega) (by omega)]
  have hu := updates_mod (n := be16 l 10) (a := (l.drop 12).take 8) (b := ipsOf a c) (be16_bd _ _) (by rw [z8, ipsOf_len]) (by omega)
  have ht : tot (words (emHd l a c)) = tot (words (dtHd l a c)) - be16 (dtHd l a c) 10 + dtSum l a c := lay_tot2 (by omega) (by decide) hnb
  rw [ht, hb, t2, t1, hn]
  omega
theorem emHd_holds (h4 : at_ l 0 / 16 = 4) : holds [emHd l a c] = holds [l.take (emAt l)] := by
  have f0 : at_ (emHd l a c) 0 = at_ l 0 := emHd_at a c h h2 (by omega) (by omega)
  have g0 : at_ (l.take (emAt l)) 0 = at_ l 0 := at_take (by omega)
  have hz := emHd_len a c h h2
  refine holds_same ?_ ?_ ?_
  · simp only [List.flatMap_cons, List.flatMap_nil, List.append_nil]; exact emHd_tot a c h h2
  · simp only [List.flatMap_cons, List.flatMap_nil, List.append_nil]; exact tot_ne (by rw [f0]; omega) (by omega)
  · simp only [List.flatMap_cons, List.flatMap_nil, List.append_nil]; exact tot_ne (by rw [g0]; omega) (by simp; omega)
end
/-- where its sum stands; 0: it does not -/
def emSumIn (l : List UInt8) : Nat := if at_ l 9 = 17 then emAt l + 6 else if at_ l 9 = 1 then emAt l + 2 else if emAt l + 18 ≤ l.length then emAt l + 16 else 0
theorem emLo_flow {l : List UInt8} (hem : emWhy l = 0) (hp : at_ l 9 = 6 ∨ at_ l 9 = 17) {a b c d : Int} (hb : 0 ≤ b ∧ b ≤ 65535) (hd : 0 ≤ d ∧ d ≤ 65535) : be16 (emLo l a b c d) 0 = b ∧ be16 (emLo l a b c d) 2 = d := by
  obtain ⟨p1, p2, p3, _⟩ := emWhy_parts hem
  have z : (l.drop (emAt l)).length = l.length - emAt l := List.length_drop
  have hx : ∀ x ∈ [b, d], 0 ≤ x ∧ x ≤ 65535 := by intro x hx; simp at hx; rcases hx with rfl | rfl <;> assumption
  unfold emLo crOf
  rw [emTup_p]
  split
  · exact flow_src (by omega) (by decide) hb hd
  · split
    · exact flow_src (by omega) (by decide) hb hd
    · rw [if_pos (by omega)]
      exact ⟨be16_putW hx _ (k := 0) (by simp), be16_putW hx _ (k := 1) (by simp)⟩
theorem emLo_msg {l : List UInt8} (hp : at_ l 9 = 1) {a b c d : Int} : emLo l a b c d = queryOf (l.drop (emAt l)) (if emAsk l = true then b else d) := by
  unfold emLo crOf
  rw [emTup_p, if_neg (by omega), if_neg (by omega), if_neg (by omega)]
theorem emLo_at {l : List UInt8} (hem : emWhy l = 0) {a b c d : Int} {i : Nat} (hi : (at_ l 9 ≠ 1 → 4 ≤ i) ∧ (at_ l 9 = 1 → i < 4 ∨ 6 ≤ i) ∧ (emSumIn l ≠ 0 → emAt l + i ≠ emSumIn l ∧ emAt l + i ≠ emSumIn l + 1)) : at_ (emLo l a b c d) i = at_ l (emAt l + i) := by
  obtain ⟨p1, p2, p3, _, _, p6⟩ := emWhy_parts hem
  have z : (l.drop (emAt l)).length = l.length - emAt l := List.length_drop
  obtain ⟨i1, i2, i3⟩ := hi
  rw [← at_drop]
  unfold emSumIn at i3
  rcases p6 with h | h | ⟨h, _⟩
  · rw [if_neg (by omega), if_neg (by omega)] at i3
    unfold emLo crOf
    rw [emTup_p, if_neg (by omega)]
    by_cases h18 : 18 ≤ (l.drop (emAt l)).length
    · rw [if_pos ⟨h, h18⟩]
      rw [if_pos (by omega)] at i3
      exact flow_at (by omega) (by omega) (i1 (by omega)) (by omega)
    · rw [if_neg (fun q => h18 q.2), if_pos h, at_right (by rw [pw_len]; have := i1 (by omega); omega), at_drop, pw_len]
      congr 1; have := i1 (by omega); omega
  · rw [if_pos h] at i3
    unfold emLo crOf
    rw [emTup_p, if_pos h]
    exact flow_at (by omega) (by omega) (i1 (by omega)) (by omega)
  · rw [if_neg (by omega), if_pos h] at i3
    rw [emLo_msg h]
    have hq := i2 h
    unfold queryOf
    rw [at_lay (by rw [lay_length (by omega)]; omega) (by omega), at_lay (by omega) (by omega)]
theorem emWhy_to {d : List UInt8} (h1 : 20 ≤ emAt d) (h3 : emAt d + 8 ≤ d.length) (h4 : at_ d 0 / 16 = 4) (h5 : be16 d 6 % 8192 = 0) (h6 : at_ d 9 = 6 ∨ at_ d 9 = 17 ∨ (at_ d 9 = 1 ∧ qIs (emMsg d) = true)) : emWhy d = 0 := by
  have hb := at_bd d 0
  have he : ((emAt d : Nat) : Int) = emEnd d := by unfold emAt emEnd; omega
  unfold emWhy
  rw [if_neg (by omega), if_neg (by omega)]
  rcases h6 with h | h | ⟨h, hq⟩
  · rw [if_pos (Or.inl h)]
  · rw [if_pos (Or.inr h)]
  · rw [if_neg (by omega), if_neg (by omega), if_pos hq]
/-- between whom the changed packet goes -/
def emWant (l : List UInt8) (a b c d : Int) : Tup := if at_ l 9 = 1 then (if kindOf (at_ l (emAt l)) = 1 then ⟨at_ l 9, a, b, c, 0⟩ else ⟨at_ l 9, a, 0, c, d⟩) else ⟨at_ l 9, a, b, c, d⟩
theorem em_again {l : List UInt8} (hem : emWhy l = 0) {a b c d : Int} (ha : 0 ≤ a ∧ a ≤ 4294967295) (hb : 0 ≤ b ∧ b ≤ 65535) (hc : 0 ≤ c ∧ c ≤ 4294967295) (hd : 0 ≤ d ∧ d ≤ 65535) (D : List UInt8) (hD : emNew l a b c d = D) :
    D.length = l.length ∧ emAt D = emAt l ∧ emWhy D = 0 ∧ at_ D 9 = at_ l 9 ∧ at_ D (emAt l) = at_ D (emAt l) ∧ emTup D = emWant l a b c d ∧ holds [D.take (emAt D)] = holds [l.take (emAt l)] ∧ (at_ l 9 = 1 → emMsg D = emMsg l) ∧ at_ D 0 = at_ l 0 := by
  obtain ⟨p1, p2, p3, p4, p5, p6⟩ := emWhy_parts hem
  have hz : D.length = l.length := by rw [← hD]; exact emNew_len hem a b c d
  rw [em_parts hem] at hD
  have hh := emHd_len a c p1 (show emAt l ≤ l.length by omega)
  have hlow : ∀ i, i < 10 → at_ D i = at_ l i := by
    intro i hi
    rw [← hD, at_left (by omega), emHd_at a c p1 (by omega) (by omega) (by omega)]
  have hlo : ∀ i, at_ D (emAt l + i) = at_ (emLo l a b c d) i := by
    intro i
    rw [← hD, at_right (by omega), hh]; congr 1; omega
  have hlo16 : ∀ i, be16 D (emAt l + i) = be16 (emLo l a b c d) i := by
    intro i
    unfold be16
    rw [hlo, Nat.add_assoc, hlo]
  have he : emAt D = emAt l := by unfold emAt emEnd; rw [hlow 0 (by omega)]
  have h9 := hlow 9 (by omega)
  have h6 : be16 D 6 = be16 l 6 := by unfold be16; rw [hlow 6 (by omega), hlow 7 (by omega)]
  have hmsg : at_ l 9 = 1 → emMsg D = emMsg l := by
    intro h
    have q0 : at_ D (emAt l) = at_ l (emAt l) := by
      have := hlo 0
      rw [Nat.add_zero] at this
      rw [this, emLo_msg h, query_at (by rw [List.length_drop]; omega) (by omega), at_drop, Nat.add_zero]
    have q1 : at_ D (emAt l + 1) = at_ l (emAt l + 1) := by
      rw [hlo, emLo_msg h, query_at (by rw [List.length_drop]; omega) (by omega), at_drop]
    unfold emMsg
    rw [he, q0, q1]
  obtain ⟨i1, i2⟩ := emHd_ips a c p1 (show emAt l ≤ l.length by omega) ha hc
  have j1 : be32 D 12 = a := by rw [← hD, be32_left (by omega), i1]
  have j2 : be32 D 16 = c := by rw [← hD, be32_left (by omega), i2]
  have hwhy : emWhy D = 0 := by
    refine emWhy_to (by omega) (by omega) (by rw [hlow 0 (by omega)]; exact p4) (by rw [h6]; exact p5) ?_
    rw [h9]
    rcases p6 with h | h | ⟨h, hq⟩
    · exact Or.inl h
    · exact Or.inr (Or.inl h)
    · exact Or.inr (Or.inr ⟨h, by rw [hmsg h]; exact hq⟩)
  refine ⟨hz, he, hwhy, h9, rfl, ?_, ?_, hmsg, hlow 0 (by omega)⟩
  · unfold emTup emWant
    rw [h9, j1, j2, he]
    rcases p6 with h | h | ⟨h, hq⟩
    · obtain ⟨f1, f2⟩ := emLo_flow hem (Or.inl h) (a := a) (c := c) hb hd
      have g0 := hlo16 0; have g2 := hlo16 2
      rw [Nat.add_zero] at g0
      rw [if_pos (Or.inl h), if_neg (by omega), g0, g2, f1, f2]
    · obtain ⟨f1, f2⟩ := emLo_flow hem (Or.inr h) (a := a) (c := c) hb hd
      have g0 := hlo16 0; have g2 := hlo16 2
      rw [Nat.add_zero] at g0
      rw [if_pos (Or.inr h), if_neg (by omega), g0, g2, f1, f2]
    · have hc0 : (emMsg l).c = 0 := by
        unfold qIs at hq
        simp only [Bool.and_eq_true, decide_eq_true_eq] at hq
        exact hq.1
      have ht : (emMsg l).t = at_ l (emAt l) := rfl
      have g4 := hlo16 4
      rw [emLo_msg h] at g4
      have ha : emAsk l = decide (kindOf (at_ l (emAt l)) = 1) := by
        unfold emAsk
        rw [qAsk_of hc0, ht]
        simp [h]
      rw [hmsg h, if_neg (by omega), if_pos h, qAsk_of hc0, ht]
      rw [ha] at g4
      by_cases hk : kindOf (at_ l (emAt l)) = 1
      · rw [if_pos (by simpa using hk), if_pos hk, g4, if_pos (by simpa using hk), query_id (by rw [List.length_drop]; omega) hb]
      · rw [if_neg (by simpa using hk), if_neg hk, g4, if_neg (by simpa using hk), query_id (by rw [List.length_drop]; omega) hd]
  · rw [he, ← hD, List.take_left' hh]
    exact emHd_holds a c p1 (by omega) p4
end Go.Proofs.YtilfcikhipadpaaGreatDoor
end
