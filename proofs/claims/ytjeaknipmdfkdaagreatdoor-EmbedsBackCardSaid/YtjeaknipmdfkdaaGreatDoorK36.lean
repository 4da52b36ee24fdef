/- Several texts of this claim, one behind the other. -/
import Derived.Test.YtjeaknipmdfkdaaGreatDoorK34a

section
/- An error translated, and translated back: plain. No walk. -/
set_option linter.unusedVariables false
set_option linter.unusedSimpArgs false
namespace Go.Proofs.YtjeaknipmdfkdaaGreatDoor
open Go.RowKit

theorem lay_congr {X Y : List UInt8} {k : Nat} {m : Int} (hz : X.length = Y.length) (h : ∀ i, i < X.length → i ≠ k → i ≠ k + 1 → at_ X i = at_ Y i) : lay X k m = lay Y k m := by
  have e1 : X.take k = Y.take k := by
    refine at_ext (by rw [List.length_take, List.length_take, hz]) fun i hi => ?_
    rw [List.length_take] at hi
    rw [at_take (by omega), at_take (by omega)]
    exact h i (by omega) (by omega) (by omega)
  have e2 : X.drop (k + 2) = Y.drop (k + 2) := by
    refine at_ext (by rw [List.length_drop, List.length_drop, hz]) fun i hi => ?_
    rw [List.length_drop] at hi
    rw [at_drop, at_drop]
    exact h _ (by omega) (by omega) (by omega)
  unfold lay
  rw [e1, e2]
theorem at_lay2 {X Y : List UInt8} {k i : Nat} {n : Int} (hX : k + 2 ≤ X.length) (hY : k + 2 ≤ Y.length) (h : i ≠ k → i ≠ k + 1 → at_ X i = at_ Y i) : at_ (lay X k n) i = at_ (lay Y k n) i := by
  by_cases hi : i = k ∨ i = k + 1
  · have f : ∀ Z : List UInt8, k + 2 ≤ Z.length → at_ (lay Z k n) i = at_ (put16 n) (i - k) := by
      intro Z hZ
      have z : (Z.take k).length = k := by rw [List.length_take]; omega
      unfold lay
      rw [at_left (by rw [List.length_append, z, put16_length]; omega), at_right (by omega), z]
    rw [f X hX, f Y hY]
  · rw [at_lay hX (by omega), at_lay hY (by omega)]
    exact h (by omega) (by omega)
section
variable {D : List UInt8} (hem : emWhy D = 0) {a b c d : Int}
include hem
theorem back_ips (ha : 0 ≤ a ∧ a ≤ 4294967295) (hc : 0 ≤ c ∧ c ≤ 4294967295) : ((emNew D a b c d).drop 12).take 8 = ipsOf a c := by
  obtain ⟨p1, p2, p3, _⟩ := emWhy_parts hem
  have z : ((dtHd D a c).take 10 ++ put16 (dtSum D a c)).length = 12 := by
    rw [List.length_append, put16_length, List.length_take, dtHd_len a c p1 (by omega)]; omega
  rw [em_parts hem, emHd_is a c p1 (by omega), List.append_assoc, List.drop_left' z, List.append_assoc]
  unfold ipsOf
  rw [List.append_assoc, ← List.append_assoc]
  exact List.take_left' rfl
theorem back_low : (emNew D a b c d).drop (emAt D) = emLo D a b c d := by
  obtain ⟨p1, p2, p3, _⟩ := emWhy_parts hem
  rw [em_parts hem, List.drop_left' (emHd_len a c p1 (by omega))]
theorem back_sum : be16 (emNew D a b c d) 10 = dtSum D a c := by
  obtain ⟨p1, p2, p3, _⟩ := emWhy_parts hem
  have hz := dtHd_len a c p1 (show emAt D ≤ D.length by omega)
  have hn : dtSum D a c = updates (be16 D 10) ((D.drop 12).take 8) (ipsOf a c) := dtSum_is a c p1 (by omega)
  rw [em_parts hem, be16_left (by rw [emHd_len a c p1 (by omega)]; omega)]
  unfold emHd
  rw [lay_at (by omega) (by rw [hn]; exact updates_bd (be16_bd _ _))]
/-- the header, back -/
theorem back_hd (ha : 0 ≤ a ∧ a ≤ 4294967295) (hb : 0 ≤ b ∧ b ≤ 65535) (hc : 0 ≤ c ∧ c ≤ 4294967295) (hd : 0 ≤ d ∧ d ≤ 65535) :
    ∃ m, emHd (emNew D a b c d) (be32 D 12) (be32 D 16) = lay (D.take (emAt D)) 10 m ∧ (0 ≤ m ∧ m ≤ 65535) ∧ (m - be16 D 10) % 65535 = 0 := by
  obtain ⟨p1, p2, p3, _⟩ := emWhy_parts hem
  obtain ⟨k1, k2, k3, k4, _, k6, k7, k8, k9⟩ := em_again hem ha hb hc hd _ rfl
  obtain ⟨s1, s2, s3, _⟩ := emWhy_parts k3
  have hips : ipsOf (be32 D 12) (be32 D 16) = (D.drop 12).take 8 := ips_self (by omega)
  have hn1 : dtSum D a c = updates (be16 D 10) ((D.drop 12).take 8) (ipsOf a c) := dtSum_is a c p1 (by omega)
  have hn2 : dtSum (emNew D a b c d) (be32 D 12) (be32 D 16) = updates (be16 (emNew D a b c d) 10) (((emNew D a b c d).drop 12).take 8) (ipsOf (be32 D 12) (be32 D 16)) := dtSum_is _ _ s1 (by omega)
  rw [back_sum hem, back_ips hem ha hc, hips] at hn2
  have z8 : ((D.drop 12).take 8).length = 8 := by simp; omega
  have u1 := updates_mod (n := be16 D 10) (a := (D.drop 12).take 8) (b := ipsOf a c) (be16_bd _ _) (by rw [z8, ipsOf_len]) (by omega)
  have u2 := updates_mod (n := dtSum D a c) (a := ipsOf a c) (b := (D.drop 12).take 8) (by rw [hn1]; exact updates_bd (be16_bd _ _)) (by rw [z8, ipsOf_len]) (by rw [ipsOf_len])
  rw [← hn1] at u1
  rw [← hn2] at u2
  refine ⟨dtSum (emNew D a b c d) (be32 D 12) (be32 D 16), ?_, ⟨?_, ?_⟩, (show (dtSum (emNew D a b c d) (be32 D 12) (be32 D 16) - be16 D 10) % 65535 = 0 by omega)⟩
  · unfold emHd
    refine lay_congr ?_ fun i hi h10 h11 => ?_
    · rw [dtHd_len _ _ s1 (by omega), k2, List.length_take]; omega
    · rw [dtHd_len _ _ s1 (by omega), k2] at hi
      rw [at_take hi]
      by_cases hm : i < 12 ∨ 20 ≤ i
      · rw [dtHd_at _ _ s1 (by omega) hm (by omega), em_parts hem, at_left (by rw [emHd_len a c p1 (by omega)]; omega), emHd_at a c p1 (by omega) (by omega) hi]
      · have z12 := em_z12 s1 (show emAt (emNew D a b c d) ≤ (emNew D a b c d).length by omega)
        unfold dtHd
        rw [at_right (by omega), z12, at_left (by rw [ipsOf_len]; omega), hips, at_take (by omega), at_drop]
        congr 1; omega
  · rw [hn2]; exact (updates_bd (by rw [hn1]; exact updates_bd (be16_bd _ _))).1
  · rw [hn2]; exact (updates_bd (by rw [hn1]; exact updates_bd (be16_bd _ _))).2
/-- what follows, back -/
theorem back_lo (ha : 0 ≤ a ∧ a ≤ 4294967295) (hb : 0 ≤ b ∧ b ≤ 65535) (hc : 0 ≤ c ∧ c ≤ 4294967295) (hd : 0 ≤ d ∧ d ≤ 65535) :
    (emSumIn D = 0 ∧ emLo (emNew D a b c d) (emTup D).a (emTup D).b (emTup D).c (emTup D).d = D.drop (emAt D)) ∨
    ∃ (j : Nat) (m : Int), emSumIn D = emAt D + j ∧ j % 2 = 0 ∧ j + 2 ≤ D.length - emAt D ∧ emLo (emNew D a b c d) (emTup D).a (emTup D).b (emTup D).c (emTup D).d = lay (D.drop (emAt D)) j m ∧ (0 ≤ m ∧ m ≤ 65535) ∧ (m - be16 (D.drop (emAt D)) j) % 65535 = 0 := by
  obtain ⟨p1, p2, p3, p4, p5, p6⟩ := emWhy_parts hem
  obtain ⟨k1, k2, k3, k4, _, k6, k7, k8, k9⟩ := em_again hem ha hb hc hd _ rfl
  have hips : ipsOf (be32 D 12) (be32 D 16) = (D.drop 12).take 8 := ips_self (by omega)
  have z8 : ((D.drop 12).take 8).length = 8 := by simp; omega
  have zT : (D.drop (emAt D)).length = D.length - emAt D := List.length_drop
  have tac : (emTup D).a = be32 D 12 ∧ (emTup D).c = be32 D 16 := by
    unfold emTup
    split
    · exact ⟨rfl, rfl⟩
    · split <;> exact ⟨rfl, rfl⟩
  have hlow : ∀ a2 b2 c2 d2, emLo (emNew D a b c d) a2 b2 c2 d2 = crOf (emLo D a b c d) (ipsOf a c) (at_ D 9) (emAsk (emNew D a b c d)) a2 b2 c2 d2 := by
    intro a2 b2 c2 d2
    rw [emLo, k2, back_low hem, back_ips hem ha hc, emTup_p, k4]
  have flow : at_ D 9 = 6 ∨ at_ D 9 = 17 → (emTup D).b = be16 (D.drop (emAt D)) 0 ∧ (emTup D).d = be16 (D.drop (emAt D)) 2 := by
    intro h
    unfold emTup
    rw [if_pos h, be16_drop, be16_drop, Nat.add_zero]
    exact ⟨rfl, rfl⟩
  have ports : at_ D 9 = 6 ∨ at_ D 9 = 17 → putW [(emTup D).b, (emTup D).d] ++ (D.drop (emAt D)).drop 4 = D.drop (emAt D) := by
    intro h
    rw [(flow h).1, (flow h).2]
    exact ports_self (by omega)
  have two : ∀ k, (at_ D 9 = 6 ∨ at_ D 9 = 17) → 4 ≤ k → k + 2 ≤ D.length - emAt D → ∃ m : Int, flowNew (flowNew (D.drop (emAt D)) ((D.drop 12).take 8) a b c d k) (ipsOf a c) (emTup D).a (emTup D).b (emTup D).c (emTup D).d k = lay (D.drop (emAt D)) k m ∧ (0 ≤ m ∧ m ≤ 65535) ∧ (m - be16 (D.drop (emAt D)) k) % 65535 = 0 := by
    intro k hp h4 hk
    obtain ⟨m, f1, f2, f3, f4⟩ := flow_two (P := D.drop (emAt D)) (ips := (D.drop 12).take 8) (a := a) (b := b) (c := c) (d := d) (a2 := (emTup D).a) (b2 := (emTup D).b) (c2 := (emTup D).c) (d2 := (emTup D).d) (k := k) (by omega) h4 z8
    rw [ports hp] at f1
    refine ⟨m, f1, f2, ?_⟩
    by_cases hz : k = 6 ∧ be16 (D.drop (emAt D)) k = 0
    · have h0 := (f3 hz.1).2 hz.2
      rw [h0, hz.2]; rfl
    · have h1 := f4 (fun h6 h0 => hz ⟨h6, h0⟩)
      have e1 : ends ((D.drop 12).take 8) ((D.drop (emAt D)).take 4) = ends (ipsOf (emTup D).a (emTup D).c) (putW [(emTup D).b, (emTup D).d]) := by
        have h2 := congrArg (List.take 4) (ports hp)
        rw [List.take_append_of_le_length (Nat.le_of_eq (putW2_len _ _).symm), List.take_of_length_le (Nat.le_of_eq (putW2_len _ _))] at h2
        rw [tac.1, tac.2, hips, h2]
      rw [e1] at h1
      omega
  rcases p6 with h | h | ⟨h, hq⟩
  · by_cases h18 : 18 ≤ D.length - emAt D
    · right
      obtain ⟨m, f1, f2, f3⟩ := two 16 (Or.inl h) (by decide) (by omega)
      refine ⟨16, m, by unfold emSumIn; rw [if_neg (by omega), if_neg (by omega), if_pos (by omega)], by decide, by omega, ?_, f2, f3⟩
      rw [hlow, ← f1]
      have e1 : emLo D a b c d = flowNew (D.drop (emAt D)) ((D.drop 12).take 8) a b c d 16 := by
        unfold emLo crOf
        rw [emTup_p, if_neg (by omega), if_pos ⟨h, by omega⟩]
      rw [e1]
      unfold crOf
      rw [if_neg (by omega), if_pos ⟨h, by rw [flow_len (by omega) (by omega)]; omega⟩]
    · left
      refine ⟨by unfold emSumIn; rw [if_neg (by omega), if_neg (by omega), if_neg (by omega)], ?_⟩
      have e1 : emLo D a b c d = putW [b, d] ++ (D.drop (emAt D)).drop 4 := by
        unfold emLo crOf
        rw [emTup_p, if_neg (by omega), if_neg (fun q => by omega), if_pos h]
      rw [hlow, e1]
      unfold crOf
      rw [if_neg (by omega), if_neg (fun q => by have := q.2; rw [List.length_append, putW2_len, List.length_drop] at this; omega), if_pos h, List.drop_left' (putW2_len _ _)]
      exact ports (Or.inl h)
  · right
    obtain ⟨m, f1, f2, f3⟩ := two 6 (Or.inr h) (by decide) (by omega)
    refine ⟨6, m, by unfold emSumIn; rw [if_pos h], by decide, by omega, ?_, f2, f3⟩
    rw [hlow, ← f1]
    have e1 : emLo D a b c d = flowNew (D.drop (emAt D)) ((D.drop 12).take 8) a b c d 6 := by
      unfold emLo crOf
      rw [emTup_p, if_pos h]
    rw [e1]
    unfold crOf
    rw [if_pos h]
  · right
    have hask : emAsk (emNew D a b c d) = emAsk D := by unfold emAsk; rw [k4, k8 h]
    have hid : (if emAsk D = true then (emTup D).b else (emTup D).d) = be16 (D.drop (emAt D)) 4 := by
      have et : emTup D = if qAsk (emMsg D) = true then ⟨at_ D 9, be32 D 12, be16 D (emAt D + 4), be32 D 16, 0⟩ else ⟨at_ D 9, be32 D 12, 0, be32 D 16, be16 D (emAt D + 4)⟩ := by
        unfold emTup
        rw [if_neg (by omega)]
      rw [et, be16_drop]
      unfold emAsk
      cases hq2 : qAsk (emMsg D)
      · simp [h]
      · simp [h]
    have hidb := be16_bd (D.drop (emAt D)) 4
    obtain ⟨id, hidd⟩ : ∃ id, id = (if emAsk D = true then b else d) := ⟨_, rfl⟩
    have hidr : 0 ≤ id ∧ id ≤ 65535 := by rw [hidd]; split <;> assumption
    have e1 : emLo D a b c d = queryOf (D.drop (emAt D)) id := by rw [emLo_msg h, hidd]
    refine ⟨2, upd (be16 (queryOf (D.drop (emAt D)) id) 2) (be16 (queryOf (D.drop (emAt D)) id) 4) (be16 (D.drop (emAt D)) 4), by unfold emSumIn; rw [if_neg (by omega), if_pos h], by decide, by omega, ?_, upd_bd (be16_bd _ _) (be16_bd _ _) hidb, ?_⟩
    · rw [hlow, e1]
      unfold crOf
      rw [if_neg (by omega), if_neg (by omega), if_neg (by omega), hask, hid, query_again (by omega), lay_self (by omega)]
    · have v1 := upd_mod (be16_bd (queryOf (D.drop (emAt D)) id) 2) (be16_bd (queryOf (D.drop (emAt D)) id) 4) hidb
      have v2 := upd_mod (be16_bd (D.drop (emAt D)) 2) hidb hidr
      rw [query_new (by omega) hidr] at v1 ⊢
      rw [query_id (by omega) hidr] at v1 ⊢
      omega
end
end Go.Proofs.YtjeaknipmdfkdaaGreatDoor
end

section
/- EmbedsBack, plain. No walk. -/
set_option linter.unusedVariables false
set_option linter.unusedSimpArgs false
namespace Go.Proofs.YtjeaknipmdfkdaaGreatDoor
open Go.RowKit

theorem em_back {D : List UInt8} (hem : emWhy D = 0) {a b c d : Int} (ha : 0 ≤ a ∧ a ≤ 4294967295) (hb : 0 ≤ b ∧ b ≤ 65535) (hc : 0 ≤ c ∧ c ≤ 4294967295) (hd : 0 ≤ d ∧ d ≤ 65535) (D2 : List UInt8) (h2 : emNew (emNew D a b c d) (emTup D).a (emTup D).b (emTup D).c (emTup D).d = D2) :
    ∃ m1 : Int, (0 ≤ m1 ∧ m1 ≤ 65535) ∧ (m1 - be16 D 10) % 65535 = 0 ∧ ((emSumIn D = 0 ∧ D2 = lay D 10 m1) ∨ ∃ m2 : Int, 20 ≤ emSumIn D ∧ emSumIn D % 2 = 0 ∧ emSumIn D + 2 ≤ D.length ∧ D2 = lay (lay D 10 m1) (emSumIn D) m2 ∧ (0 ≤ m2 ∧ m2 ≤ 65535) ∧ (m2 - be16 D (emSumIn D)) % 65535 = 0) := by
  obtain ⟨p1, p2, p3, _⟩ := emWhy_parts hem
  obtain ⟨_, _, k3, _⟩ := em_again hem ha hb hc hd _ rfl
  have tac : (emTup D).a = be32 D 12 ∧ (emTup D).c = be32 D 16 := by
    unfold emTup
    split
    · exact ⟨rfl, rfl⟩
    · split <;> exact ⟨rfl, rfl⟩
  obtain ⟨m1, g1, g2, g3⟩ := back_hd hem ha hb hc hd
  have hev : emAt D % 2 = 0 := by unfold emAt emEnd; have := at_bd D 0; omega
  have z : (D.take (emAt D)).length = emAt D := by rw [List.length_take]; omega
  have zl : (lay (D.take (emAt D)) 10 m1).length = emAt D := by rw [lay_length (by omega), z]
  rw [em_parts k3] at h2
  refine ⟨m1, g2, g3, ?_⟩
  rcases back_lo hem ha hb hc hd with ⟨q1, q2⟩ | ⟨j, m2, q1, q2, q3, q4, q5, q6⟩
  · left
    refine ⟨q1, ?_⟩
    rw [← h2, q2, tac.1, tac.2, g1, ← lay_app (by omega), List.take_append_drop]
  · right
    refine ⟨m2, by omega, by omega, by omega, ?_, q5, by rw [q1, ← be16_drop]; exact q6⟩
    rw [← h2, q4, tac.1, tac.2, g1, app_lay (k := emAt D + j) (by rw [zl]), ← lay_app (by omega), List.take_append_drop, q1]
theorem back_tot {D : List UInt8} (hem : emWhy D = 0) {m1 : Int} {D2 : List UInt8} (h1 : 0 ≤ m1 ∧ m1 ≤ 65535) (h2 : (m1 - be16 D 10) % 65535 = 0)
    (h : (emSumIn D = 0 ∧ D2 = lay D 10 m1) ∨ ∃ m2 : Int, 20 ≤ emSumIn D ∧ emSumIn D % 2 = 0 ∧ emSumIn D + 2 ≤ D.length ∧ D2 = lay (lay D 10 m1) (emSumIn D) m2 ∧ (0 ≤ m2 ∧ m2 ≤ 65535) ∧ (m2 - be16 D (emSumIn D)) % 65535 = 0) :
    (tot (words D2) - tot (words D)) % 65535 = 0 ∧ D2.length = D.length := by
  obtain ⟨p1, p2, p3, _⟩ := emWhy_parts hem
  have t1 : tot (words (lay D 10 m1)) = tot (words D) - be16 D 10 + m1 := lay_tot2 (by omega) (by decide) h1
  have z1 : (lay D 10 m1).length = D.length := lay_length (by omega)
  rcases h with ⟨_, rfl⟩ | ⟨m2, q1, q2, q3, rfl, q5, q6⟩
  · exact ⟨by rw [t1]; omega, z1⟩
  · have t2 := lay_tot2 (l := lay D 10 m1) (k := emSumIn D) (by omega) q2 q5
    rw [lay_other (by omega) (by omega)] at t2
    exact ⟨by rw [t2, t1]; omega, by rw [lay_length (by omega), z1]⟩
theorem low_back {P : List UInt8} (h8 : 8 ≤ P.length) (hem : emWhy (P.drop 8) = 0) {a b c d : Int} (ha : 0 ≤ a ∧ a ≤ 4294967295) (hb : 0 ≤ b ∧ b ≤ 65535) (hc : 0 ≤ c ∧ c ≤ 4294967295) (hd : 0 ≤ d ∧ d ≤ 65535) (D2 : List UInt8)
    (h2 : emNew (emNew (P.drop 8) a b c d) (emTup (P.drop 8)).a (emTup (P.drop 8)).b (emTup (P.drop 8)).c (emTup (P.drop 8)).d = D2) (ht : (tot (words D2) - tot (words (P.drop 8))) % 65535 = 0) (hz : D2.length = (P.drop 8).length) :
    ∃ m0 : Int, (0 ≤ m0 ∧ m0 ≤ 65535) ∧ (m0 - be16 P 2) % 65535 = 0 ∧ trLow (trLow P a b c d) (emTup (P.drop 8)).a (emTup (P.drop 8)).b (emTup (P.drop 8)).c (emTup (P.drop 8)).d = lay (P.take 8 ++ D2) 2 m0 := by
  obtain ⟨_, _, k3, _⟩ := em_again hem ha hb hc hd _ rfl
  have l8 := low_len h8 hem a b c d
  have ld := low_drop h8 hem a b c d
  have ls := low_sum h8 hem a b c d
  have lm := low_mod hem a b c d
  have hem2 : emWhy ((trLow P a b c d).drop 8) = 0 := by rw [ld]; exact k3
  have lm2 := low_mod hem2 (emTup (P.drop 8)).a (emTup (P.drop 8)).b (emTup (P.drop 8)).c (emTup (P.drop 8)).d
  rw [ls, ld, h2] at lm2
  refine ⟨trSum (trLow P a b c d) (emTup (P.drop 8)).a (emTup (P.drop 8)).b (emTup (P.drop 8)).c (emTup (P.drop 8)).d, updates_bd (be16_bd _ _), by omega, ?_⟩
  rw [trLow, ld, h2]
  have pd : (P.drop 8).length = P.length - 8 := List.length_drop
  refine lay_congr ?_ fun i hi n2 n3 => ?_
  · rw [List.length_append, List.length_append, List.length_take, List.length_take, l8]
  · by_cases h : i < 8
    · rw [at_left (by rw [List.length_take]; omega), at_left (by rw [List.length_take]; omega), at_take h, at_take h, low_at h8 hem a b c d (by omega) h]
    · have y1 : ((trLow P a b c d).take 8).length = 8 := by rw [List.length_take]; omega
      have y2 : (P.take 8).length = 8 := by rw [List.length_take]; omega
      rw [at_right (by omega), at_right (by omega), y1, y2]
/-! ### with 0 for sums of 65535 -/
def fixAt (l : List UInt8) (i : Nat) : List UInt8 := lay l i (fix0 (be16 l i))
def plainP (P : List UInt8) (k : Nat) : List UInt8 := if 0 < k then fixAt (fixAt (fixAt P 2) 18) (8 + k) else fixAt (fixAt P 2) 18
def plainE (l : List UInt8) (o k : Nat) : List UInt8 := if 0 < k then fixAt (fixAt (fixAt (zeroH l) (o + 2)) (o + 18)) (o + 8 + k) else fixAt (fixAt (zeroH l) (o + 2)) (o + 18)
theorem fix_app {Z X : List UInt8} {i k : Nat} (hk : k = Z.length + i) : fixAt (Z ++ X) k = Z ++ fixAt X i := by
  unfold fixAt; rw [be16_app hk, app_lay hk]
theorem plainE_app {H P : List UInt8} (h : 20 ≤ H.length) (k : Nat) : plainE (H ++ P) H.length k = zeroH H ++ plainP P k := by
  have z := zero_len H
  unfold plainE plainP
  rw [zero_app h, fix_app (i := 2) (by omega), fix_app (i := 18) (by omega)]
  split
  · rw [fix_app (i := 8 + k) (by omega)]
  · rfl
theorem plainP_back {P D2 P4 : List UInt8} {m0 m1 : Int} (hem : emWhy (P.drop 8) = 0) (r0 : 0 ≤ m0 ∧ m0 ≤ 65535) (c0 : (m0 - be16 P 2) % 65535 = 0) (r1 : 0 ≤ m1 ∧ m1 ≤ 65535) (c1 : (m1 - be16 (P.drop 8) 10) % 65535 = 0)
    (h : (emSumIn (P.drop 8) = 0 ∧ D2 = lay (P.drop 8) 10 m1) ∨ ∃ m2 : Int, 20 ≤ emSumIn (P.drop 8) ∧ emSumIn (P.drop 8) % 2 = 0 ∧ emSumIn (P.drop 8) + 2 ≤ (P.drop 8).length ∧ D2 = lay (lay (P.drop 8) 10 m1) (emSumIn (P.drop 8)) m2 ∧ (0 ≤ m2 ∧ m2 ≤ 65535) ∧ (m2 - be16 (P.drop 8) (emSumIn (P.drop 8))) % 65535 = 0)
    (h4 : P4 = lay (P.take 8 ++ D2) 2 m0) : plainP P4 (emSumIn (P.drop 8)) = plainP P (emSumIn (P.drop 8)) := by
  obtain ⟨p1, p2, p3, _⟩ := emWhy_parts hem
  have pd : (P.drop 8).length = P.length - 8 := List.length_drop
  have z8 : (P.take 8).length = 8 := by rw [List.length_take]; omega
  rw [be16_drop] at c1
  have f0 : fix0 m0 = fix0 (be16 P 2) := fix0_mod r0 (be16_bd _ _) c0
  have f1 : fix0 m1 = fix0 (be16 P 18) := fix0_mod r1 (be16_bd _ _) c1
  have e18 : P.take 8 ++ lay (P.drop 8) 10 m1 = lay P 18 m1 := by rw [app_lay (k := 18) (by omega), List.take_append_drop]
  have z1 : (lay P 18 m1).length = P.length := lay_length (by omega)
  have rf : ∀ n : Int, 0 ≤ n ∧ n ≤ 65535 → 0 ≤ fix0 n ∧ fix0 n ≤ 65535 := by intro n hn; unfold fix0; split <;> omega
  rcases h with ⟨q1, rfl⟩ | ⟨m2, q1, q2, q3, rfl, q5, q6⟩
  · unfold plainP
    rw [if_neg (by omega), if_neg (by omega), h4, e18]
    unfold fixAt
    have zx : (lay (lay P 18 m1) 2 (fix0 m0)).length = P.length := by rw [lay_length (by omega), z1]
    have zy : (lay P 2 (fix0 m0)).length = P.length := lay_length (by omega)
    rw [lay_at (by omega) r0, lay_lay (by omega), ← f0, lay_other (l := lay P 18 m1) (by omega) (by omega), lay_at (by omega) r1, lay_other (l := P) (k := 2) (by omega) (by omega), ← f1]
    refine lay_congr (by omega) fun i hi n1 n2 => at_lay2 (by omega) (by omega) fun n3 n4 => at_lay (by omega) (by omega)
  · have e2 : P.take 8 ++ lay (lay (P.drop 8) 10 m1) (emSumIn (P.drop 8)) m2 = lay (lay P 18 m1) (8 + emSumIn (P.drop 8)) m2 := by
      rw [app_lay (k := 8 + emSumIn (P.drop 8)) (by omega), e18]
    rw [be16_drop] at q6
    have f2 : fix0 m2 = fix0 (be16 P (8 + emSumIn (P.drop 8))) := fix0_mod q5 (be16_bd _ _) q6
    unfold plainP
    rw [if_pos (by omega), if_pos (by omega), h4, e2]
    generalize emSumIn (P.drop 8) = k at *
    have z2 : (lay (lay P 18 m1) (8 + k) m2).length = P.length := by rw [lay_length (by omega), z1]
    have zx : (lay (lay (lay P 18 m1) (8 + k) m2) 2 (fix0 m0)).length = P.length := by rw [lay_length (by omega), z2]
    have zy : (lay P 2 (fix0 m0)).length = P.length := lay_length (by omega)
    have zx2 : (lay (lay (lay (lay P 18 m1) (8 + k) m2) 2 (fix0 m0)) 18 (fix0 m1)).length = P.length := by rw [lay_length (by omega), zx]
    have zy2 : (lay (lay P 2 (fix0 m0)) 18 (fix0 m1)).length = P.length := by rw [lay_length (by omega), zy]
    have a1 : fixAt (lay (lay (lay P 18 m1) (8 + k) m2) 2 m0) 2 = lay (lay (lay P 18 m1) (8 + k) m2) 2 (fix0 m0) := by
      unfold fixAt; rw [lay_at (by omega) r0, lay_lay (by omega)]
    have a2 : fixAt (lay (lay (lay P 18 m1) (8 + k) m2) 2 (fix0 m0)) 18 = lay (lay (lay (lay P 18 m1) (8 + k) m2) 2 (fix0 m0)) 18 (fix0 m1) := by
      unfold fixAt; rw [lay_other (k := 2) (by omega) (by omega), lay_other (k := 8 + k) (by omega) (by omega), lay_at (by omega) r1]
    have a3 : fixAt (lay (lay (lay (lay P 18 m1) (8 + k) m2) 2 (fix0 m0)) 18 (fix0 m1)) (8 + k) = lay (lay (lay (lay (lay P 18 m1) (8 + k) m2) 2 (fix0 m0)) 18 (fix0 m1)) (8 + k) (fix0 m2) := by
      unfold fixAt; rw [lay_other (k := 18) (by omega) (by omega), lay_other (k := 2) (by omega) (by omega), lay_at (by omega) q5]
    have b1 : fixAt P 2 = lay P 2 (fix0 m0) := by unfold fixAt; rw [f0]
    have b2 : fixAt (lay P 2 (fix0 m0)) 18 = lay (lay P 2 (fix0 m0)) 18 (fix0 m1) := by
      unfold fixAt; rw [lay_other (k := 2) (by omega) (by omega), f1]
    have b3 : fixAt (lay (lay P 2 (fix0 m0)) 18 (fix0 m1)) (8 + k) = lay (lay (lay P 2 (fix0 m0)) 18 (fix0 m1)) (8 + k) (fix0 m2) := by
      unfold fixAt; rw [lay_other (k := 18) (by omega) (by omega), lay_other (k := 2) (by omega) (by omega), f2]
    rw [a1, a2, a3, b1, b2, b3]
    refine lay_congr (by omega) fun i hi n1 n2 => at_lay2 (by omega) (by omega) fun n3 n4 => at_lay2 (by omega) (by omega) fun n5 n6 => ?_
    rw [at_lay (by omega) (by omega), at_lay (by omega) (by omega)]
end Go.Proofs.YtjeaknipmdfkdaaGreatDoor
end

section
/- EmbedsBack, plain: the texts. No walk. -/
set_option linter.unusedVariables false
set_option linter.unusedSimpArgs false
namespace Go.Proofs.YtjeaknipmdfkdaaGreatDoor
open Go.RowKit

theorem tr_whole {H P : List UInt8} (R : List UInt8) (oa ob oc od a b c d : Int) (w : Whole H P) (h9 : at_ H 9 = 1) (h8 : 8 ≤ P.length) (hk : kindOf (at_ P 0) = 3) (hem : emWhy (P.drop 8) = 0) (hl : 1 < at_ H 8) :
    trWhy (S (H ++ P ++ R)) = 0 ∧ trOut (S (H ++ P ++ R)) oa ob oc od a b c d = S (headNew H oa oc ++ trLow P a b c d) := by
  obtain ⟨g1, g2, g3, g4, g5, g6⟩ := err_of R w h9 h8 hk hem
  obtain ⟨d1, d2⟩ := emData_of g4
  obtain ⟨e1, e2, e3⟩ := seen_whole R w
  generalize S (H ++ P ++ R) = s at *
  have hrw : rwWhy s = 0 := by unfold rwWhy; rw [if_neg (by omega), g2, if_neg (by simp only; omega)]
  have htr : trWhy s = 0 := by unfold trWhy; rw [if_neg (by omega), hrw]
  have ho : rwOut s oa ob oc od = S (headNew H oa oc ++ P) := by
    unfold rwOut
    rw [if_pos hrw, e3]
    unfold loadNew
    rw [g2]
    simp only
    rw [if_neg (by decide), if_neg (by decide), if_pos trivial]
  refine ⟨htr, ?_⟩
  unfold trOut
  rw [if_pos htr]
  refine congrArg S ?_
  unfold trNew
  rw [ho, S_size, L_S, d1, S_size, List.length_append, List.length_drop, show (headNew H oa oc).length + P.length - (P.length - 8) = (headNew H oa oc).length + 8 from by omega, show (headNew H oa oc).length + 8 - 6 = (headNew H oa oc).length + 2 from by omega, List.take_length_add_append, L_S, List.append_assoc, ← app_lay (k := (headNew H oa oc).length + 2) (j := 2) rfl]
  have e9 : emSum s a b c d = trSum P a b c d := by unfold emSum trSum; rw [d2, d1, L_S]
  rw [e9]
  rfl
def plainS (t : ByteArray) : ByteArray := S (plainE (L t) (ipOwn (L t)).toNat (emSumIn (L (emData t))))
def PlainOk (t : ByteArray) : Prop := 8 ≤ (ipRest t).size ∧ 28 ≤ (emData t).size ∧ (∃ o : Nat, ((o : Nat) : Int) = at_ (L t) 0 % 16 * 4 ∧ o = (ipOwn (L t)).toNat ∧ 20 ≤ o ∧ o ≤ 60 ∧ t.size = o + 8 + (emData t).size) ∧ (emSumIn (L (emData t)) = 0 ∨ (20 ≤ emSumIn (L (emData t)) ∧ emSumIn (L (emData t)) ≤ 76 ∧ emSumIn (L (emData t)) + 2 ≤ (emData t).size))
theorem sumIn_ok {D : List UInt8} (hem : emWhy D = 0) : emSumIn D = 0 ∨ (20 ≤ emSumIn D ∧ emSumIn D ≤ 76 ∧ emSumIn D + 2 ≤ D.length) := by
  obtain ⟨p1, p2, p3, _⟩ := emWhy_parts hem
  unfold emSumIn
  split
  · right; omega
  · split
    · right; omega
    · split
      · right; omega
      · left; rfl
theorem plain_ok {G P : List UInt8} (w : Whole G P) (h9 : at_ G 9 = 1) (h8 : 8 ≤ P.length) (hk : kindOf (at_ P 0) = 3) (hem : emWhy (P.drop 8) = 0) :
    PlainOk (S (G ++ P)) ∧ plainS (S (G ++ P)) = S (zeroH G ++ plainP P (emSumIn (P.drop 8))) ∧ emData (S (G ++ P)) = S (P.drop 8) := by
  obtain ⟨g1, g2, g3, g4, g5, g6⟩ := err_of [] w h9 h8 hk hem
  rw [List.append_nil] at g4 g5
  obtain ⟨p1, p2, p3, _⟩ := emWhy_parts hem
  have pd : (P.drop 8).length = P.length - 8 := List.length_drop
  have own := w.own
  have h20 := w.h20; have h60 := w.h60
  have ow : ipOwn (L (S (G ++ P))) = (G.length : Int) := by rw [← own, L_S]; unfold ipOwn; rw [at_left (by omega)]
  have ow2 : (G.length : Int) = at_ (L (S (G ++ P))) 0 % 16 * 4 := ow.symm
  refine ⟨⟨?_, ?_, ⟨G.length, ow2, by rw [ow]; rfl, h20, h60, ?_⟩, ?_⟩, ?_, g5⟩
  · rw [g4, S_size]; exact h8
  · rw [g5, S_size]; omega
  · rw [g5, S_size, S_size, List.length_append]; omega
  · rw [g5, L_S, S_size]; exact sumIn_ok hem
  · unfold plainS
    rw [ow, g5, L_S, L_S, Int.toNat_natCast, plainE_app h20]
theorem em_backs {s : ByteArray} {oa ob oc od a b c d : Int} (h : emsWhy s = 0) (hl : 2 < (seenOf s).l) (hoa : 0 ≤ oa ∧ oa ≤ 4294967295) (hoc : 0 ≤ oc ∧ oc ≤ 4294967295)
    (ha : 0 ≤ a ∧ a ≤ 4294967295) (hb : 0 ≤ b ∧ b ≤ 65535) (hc : 0 ≤ c ∧ c ≤ 4294967295) (hd : 0 ≤ d ∧ d ≤ 65535) (u v : ByteArray) (hu : trOut s oa ob oc od a b c d = u)
    (hv : trOut u (seenOf s).t.a (seenOf s).t.b (seenOf s).t.c (seenOf s).t.d (emTup (L (emData s))).a (emTup (L (emData s))).b (emTup (L (emData s))).c (emTup (L (emData s))).d = v) :
    trWhy s = 0 ∧ trWhy u = 0 ∧ u.size ≤ s.size ∧ 36 ≤ v.size ∧ v.size ≤ s.size ∧ 28 ≤ (emData s).size ∧ 8 ≤ (ipRest s).size ∧ at_ (L v) 8 = at_ (L s) 8 - 2 ∧ 3 ≤ at_ (L s) 8 ∧ PlainOk v ∧ PlainOk (s.extract 0 v.size) ∧ plainS v = plainS (s.extract 0 v.size) := by
  obtain ⟨H, P, R, hs, w, h9, h8, hk, hem, h1, e1, e2, e3, e4, w2, g8, g9, g12, g16, hz, k2, hdp, k3⟩ := em_two (oa := oa) (ob := ob) (oc := oc) (od := od) h (show 1 < (seenOf s).l by omega) hoa hoc ha hb hc hd
  obtain ⟨s1, s2, s3, s4, s5, s6⟩ := err_of R w h9 h8 hk hem
  rw [← hs] at s1 s2 s3 s4 s5 s6
  rw [s2] at hl
  rw [s5, L_S, s2, ← hu, e4, app_nil] at hv
  simp only at hl hv
  obtain ⟨t1, t2⟩ := tr_whole [] (be32 H 12) 0 (be32 H 16) 0 (emTup (P.drop 8)).a (emTup (P.drop 8)).b (emTup (P.drop 8)).c (emTup (P.drop 8)).d w2 g9 (by omega) k2 k3 (by omega)
  rw [t2] at hv
  have tok := emTup_ok (P.drop 8)
  obtain ⟨_, ta, tb, tc, td⟩ := tok
  have b12 := be32_bd H 12; have b16 := be32_bd H 16
  obtain ⟨m1, m2, m3, m4, _, m6, m7, m8, m9⟩ := em_again hem ha hb hc hd _ rfl
  obtain ⟨n1, n2, n3, n4, _⟩ := em_again m3 ta tb tc td _ rfl
  obtain ⟨x1, y1, y2, y3⟩ := em_back hem ha hb hc hd _ rfl
  obtain ⟨y4, y5⟩ := back_tot hem y1 y2 y3
  obtain ⟨x0, z1, z2, z3⟩ := low_back h8 hem ha hb hc hd _ rfl y4 y5
  have hP := plainP_back hem z1 z2 y1 y2 y3 z3
  have z4 := low_len (P := trLow P a b c d) (by omega) k3 (emTup (P.drop 8)).a (emTup (P.drop 8)).b (emTup (P.drop 8)).c (emTup (P.drop 8)).d
  have z5 := low_drop (P := trLow P a b c d) (by omega) k3 (emTup (P.drop 8)).a (emTup (P.drop 8)).b (emTup (P.drop 8)).c (emTup (P.drop 8)).d
  have z6 := low_at (P := trLow P a b c d) (by omega) k3 (emTup (P.drop 8)).a (emTup (P.drop 8)).b (emTup (P.drop 8)).c (emTup (P.drop 8)).d (i := 0) (by omega) (by omega)
  rw [hdp] at z5
  generalize trLow (trLow P a b c d) (emTup (P.drop 8)).a (emTup (P.drop 8)).b (emTup (P.drop 8)).c (emTup (P.drop 8)).d = P4 at *
  obtain ⟨w4, f8, f9, f12, f16⟩ := head_whole (Q := P4) w2 b12 b16 (by omega) (by omega)
  have hh := headNew_length (H := H) oa oc w.h20
  have hh2 := headNew_length (H := headNew H oa oc) (be32 H 12) (be32 H 16) (by rw [hh]; exact w.h20)
  have zb := zero_back (H := H) oa oc w.h20
  obtain ⟨A1, A2, A3⟩ := plain_ok w4 (by rw [f9, g9]) (by omega) (by rw [z6]; exact k2) (by rw [z5]; exact n3)
  obtain ⟨B1, B2, B3⟩ := plain_ok w h9 h8 hk hem
  have h20 := w.h20
  obtain ⟨p1, p2, p3, _⟩ := emWhy_parts hem
  have pd : (P.drop 8).length = P.length - 8 := List.length_drop
  have hsz : s.size = H.length + P.length + R.length := by rw [hs, S_size, List.length_append, List.length_append]
  have husz : u.size = H.length + P.length := by rw [← hu, e4, S_size, List.length_append, hh, hz]
  have hvsz : v.size = H.length + P.length := by rw [← hv, S_size, List.length_append, hh2, hh, z4, hz]
  have hx : s.extract 0 v.size = S (H ++ P) := by
    refine L_inj ?_
    rw [L_to, hs, L_S, L_S, List.take_left' (by rw [List.length_append]; omega)]
  have hk4 : emSumIn (P4.drop 8) = emSumIn (P.drop 8) := by
    rw [z5]
    unfold emSumIn
    rw [n4, m4, n2, m2, n1, m1]
  rw [app_nil] at e4
  refine ⟨e2, ?_, by omega, by omega, by omega, by rw [s5, S_size]; omega, by rw [s4, S_size]; exact h8, ?_, ?_, by rw [← hv]; exact A1, by rw [hx]; exact B1, ?_⟩
  · rw [← hu, e4]; exact t1
  · rw [← hv, hs, L_S, L_S, at_left (by omega), List.append_assoc, at_left (by omega), f8, g8]; omega
  · rw [hs, L_S, List.append_assoc, at_left (by omega)]; omega
  · rw [hx, ← hv, A2, B2, hk4, zb, hP]
end Go.Proofs.YtjeaknipmdfkdaaGreatDoor
end
