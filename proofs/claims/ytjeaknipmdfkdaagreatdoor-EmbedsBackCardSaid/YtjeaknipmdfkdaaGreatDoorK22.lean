/- Several texts of this claim, one behind the other. -/
import Derived.Test.YtjeaknipmdfkdaaGreatDoorK20
import Derived.Test.YtjeaknipmdfkdaaGreatDoorK21

section
/- Packets, changed: whether what they carry has a right sum, plain. No walk. -/
set_option linter.unusedVariables false
namespace Go.Proofs.YtjeaknipmdfkdaaGreatDoor
open Go.RowKit

/-- has what a packet carries a right sum -/
def rightL (h : Hd) (P : List UInt8) : Bool := if h.p = 6 then tcpOk h.s h.d (S P) else if h.p = 17 then udpOk h.s h.d (S P) else decide (8 ≤ P.length) && holds [P]
theorem ips_ev (a b : Int) : (ipsOf a b).length % 2 = 0 := by rw [show (ipsOf a b).length = 8 from rfl]
theorem pw_ev (b d : Int) : (putW [b, d]).length % 2 = 0 := by rw [pw_len]
theorem holds_same {ls ms : List (List UInt8)} (h : (tot (ls.flatMap words) - tot (ms.flatMap words)) % 65535 = 0) (h1 : tot (ls.flatMap words) ≠ 0) (h2 : tot (ms.flatMap words) ≠ 0) : holds ls = holds ms := by
  rw [Bool.eq_iff_iff, holds_iff, holds_iff]
  omega
theorem lay_tot2 {l : List UInt8} {k : Nat} {n : Int} (h : k + 2 ≤ l.length) (h2 : k % 2 = 0) (hn : 0 ≤ n ∧ n ≤ 65535) : tot (words (lay l k n)) = tot (words l) - be16 l k + n := by
  have e := lay_tot h h2 (be16_bd l k)
  rw [lay_self h] at e
  rw [lay_tot h h2 hn, e]; omega
theorem pseudo_tot (a b p : Int) (n : Nat) (l : List UInt8) (hp : 0 ≤ p ∧ p ≤ 255) : tot ([pseudo a b p n, l].flatMap words) = tot (words (ipsOf a b)) + (p + (n : Int) % 65536) + tot (words l) := by
  have e : pseudo a b p n = ipsOf a b ++ putW [p, (n : Int) % 65536] := rfl
  simp only [List.flatMap_cons, List.flatMap_nil, List.append_nil, tot_append]
  rw [e, words_even _ _ (ips_ev a b), tot_append, words_putW' (by intro x hx; simp at hx; rcases hx with rfl | rfl <;> omega)]
  simp only [tot_cons, tot_nil]; omega
theorem flow_right {P : List UInt8} {a b c d s0 d0 p : Int} {k : Nat} (h : k + 2 ≤ P.length) (h4 : 4 ≤ k) (h2 : k % 2 = 0) (hp : 1 ≤ p ∧ p ≤ 255) (hb : 0 ≤ b ∧ b ≤ 65535) (hd : 0 ≤ d ∧ d ≤ 65535) (h0 : k = 6 → be16 P k ≠ 0) :
    holds [pseudo a c p (flowNew P (ipsOf s0 d0) a b c d k).length, flowNew P (ipsOf s0 d0) a b c d k] = holds [pseudo s0 d0 p P.length, P] := by
  obtain ⟨m1, m2, m3⟩ := flow_mod (l := P) (ips := ipsOf s0 d0) (a := a) (b := b) (c := c) (d := d) h h4 rfl
  have q := m3 h0
  have ez : (flowNew P (ipsOf s0 d0) a b c d k).length = P.length := flow_len h (by omega)
  have eP : tot (words P) = tot (words (P.take 4)) + tot (words (P.drop 4)) := by
    conv => lhs; rw [← List.take_append_drop 4 P]
    rw [words_even _ _ (by simp; omega), tot_append]
  have eX : tot (words (putW [b, d] ++ P.drop 4)) = tot (words (putW [b, d])) + tot (words (P.drop 4)) := by rw [words_even _ _ (pw_ev b d), tot_append]
  have eN : be16 (putW [b, d] ++ P.drop 4) k = be16 P k := by
    rw [be16_right (by rw [pw_len]; omega), be16_drop, pw_len]; congr 1; omega
  have eQ : tot (words (flowNew P (ipsOf s0 d0) a b c d k)) = tot (words (putW [b, d])) + tot (words (P.drop 4)) - be16 P k + flowFix k (be16 P k) (flowSum P (ipsOf s0 d0) a b c d k) := by
    unfold flowNew
    rw [lay_tot2 (by simp [pw_len]; omega) h2 m1, eX, eN]
  have e1 : ends (ipsOf s0 d0) (P.take 4) = tot (words (ipsOf s0 d0)) + tot (words (P.take 4)) := by unfold ends; rw [words_even _ _ (ips_ev _ _), tot_append]
  have e2 : ends (ipsOf a c) (putW [b, d]) = tot (words (ipsOf a c)) + tot (words (putW [b, d])) := by unfold ends; rw [words_even _ _ (ips_ev _ _), tot_append]
  rw [e1, e2] at q
  have n1 := tot_nonneg (words_bd (ipsOf s0 d0))
  have n2 := tot_nonneg (words_bd (ipsOf a c))
  have n3 := tot_nonneg (words_bd P)
  have n4 := tot_nonneg (words_bd (flowNew P (ipsOf s0 d0) a b c d k))
  apply holds_same
  · rw [pseudo_tot _ _ _ _ _ (by omega), pseudo_tot _ _ _ _ _ (by omega), ez, eP, eQ]
    omega
  · rw [pseudo_tot _ _ _ _ _ (by omega)]; omega
  · rw [pseudo_tot _ _ _ _ _ (by omega)]; omega
theorem query_right {P : List UInt8} {id : Int} (h8 : 8 ≤ P.length) (hi : 0 ≤ id ∧ id ≤ 65535) : holds [queryOf P id] = holds [P] ∨ tot (words P) = 0 ∨ tot (words (queryOf P id)) = 0 := by
  have u := upd_mod (be16_bd P 2) (be16_bd P 4) hi
  have v := upd_bd (be16_bd P 2) (be16_bd P 4) hi
  have z4 : (lay P 4 id).length = P.length := lay_length (by omega)
  have e : tot (words (queryOf P id)) = tot (words P) - be16 P 4 + id - be16 P 2 + upd (be16 P 2) (be16 P 4) id := by
    unfold queryOf
    rw [lay_tot2 (by omega) (by omega) v, lay_tot2 (by omega) (by omega) hi, lay_other (by omega) (by omega)]
  by_cases h1 : tot (words P) = 0
  · exact Or.inr (Or.inl h1)
  by_cases h2 : tot (words (queryOf P id)) = 0
  · exact Or.inr (Or.inr h2)
  left
  apply holds_same
  · simp only [List.flatMap_cons, List.flatMap_nil, List.append_nil]
    rw [e]; omega
  · simpa using h2
  · simpa using h1
theorem load_right {h g : Hd} {P : List UInt8} {a b c d : Int} (hw : loadWhy h.p (S P) = 0) (hb : 0 ≤ b ∧ b ≤ 65535) (hd : 0 ≤ d ∧ d ≤ 65535) (gp : g.p = h.p) (gs : g.s = a) (gd : g.d = c) :
    rightL g (loadNew (loadSeen h (S P)) P (ipsOf h.s h.d) a b c d) = rightL h P ∨ tot (words P) = 0 ∨ tot (words (loadNew (loadSeen h (S P)) P (ipsOf h.s h.d) a b c d)) = 0 := by
  rcases load_cases hw with ⟨hp, ht⟩ | ⟨hp, ht⟩ | ⟨hp, h8, ht⟩
  · have hz := tcpIs_len ht
    have el : loadNew (loadSeen h (S P)) P (ipsOf h.s h.d) a b c d = flowNew P (ipsOf h.s h.d) a b c d 16 := by
      rw [seen_tcp hp hz]; unfold loadNew; rw [if_pos rfl]
    rw [el]
    have ez : (flowNew P (ipsOf h.s h.d) a b c d 16).length = P.length := flow_len (by omega) (by omega)
    left
    unfold rightL
    rw [gp, if_pos hp, if_pos hp, gs, gd]
    unfold tcpOk
    rw [S_size, S_size, L_S, L_S, flow_right (by omega) (by omega) (by omega) (by omega) hb hd (by omega), ez]
  · have hz := udpIs_len ht
    have el : loadNew (loadSeen h (S P)) P (ipsOf h.s h.d) a b c d = flowNew P (ipsOf h.s h.d) a b c d 6 := by
      rw [seen_udp hp hz]; unfold loadNew; rw [if_neg (by dsimp only; decide), if_pos rfl]
    rw [el]
    have ez : (flowNew P (ipsOf h.s h.d) a b c d 6).length = P.length := flow_len (by omega) (by omega)
    obtain ⟨m1, m2, m3⟩ := flow_mod (l := P) (ips := ipsOf h.s h.d) (a := a) (b := b) (c := c) (d := d) (k := 6) (by omega) (by omega) rfl
    have en := flow_new (l := P) (ips := ipsOf h.s h.d) (a := a) (b := b) (c := c) (d := d) (k := 6) (by omega) (by omega)
    have g1 : get16 P 6 = be16 P 6 := by show get16 P ((6 : Nat) : Int) = _; exact get16_nat (by omega)
    have g2 : get16 (flowNew P (ipsOf h.s h.d) a b c d 6) 6 = be16 (flowNew P (ipsOf h.s h.d) a b c d 6) 6 := by show get16 _ ((6 : Nat) : Int) = _; exact get16_nat (by omega)
    left
    unfold rightL
    rw [gp, if_neg (by omega), if_pos hp, if_neg (by omega), if_pos hp, gs, gd]
    unfold udpOk
    rw [S_size, S_size, L_S, L_S, g1, g2, ez]
    by_cases h0 : be16 P 6 = 0
    · have h1 : be16 (flowNew P (ipsOf h.s h.d) a b c d 6) 6 = 0 := by rw [en]; exact (m2 rfl).2 h0
      rw [h0, h1]; simp
    · have h1 : be16 (flowNew P (ipsOf h.s h.d) a b c d 6) 6 ≠ 0 := by rw [en]; exact fun q => h0 ((m2 rfl).1 q)
      have hr := flow_right (P := P) (a := a) (b := b) (c := c) (d := d) (s0 := h.s) (d0 := h.d) (p := 17) (k := 6) (by omega) (by omega) (by omega) (by omega) hb hd (fun _ => h0)
      rw [ez] at hr
      rw [hr, decide_eq_false h0, decide_eq_false h1]
  · have hn : ∀ h : Hd, ∀ l, h.p = 1 → rightL h l = (decide (8 ≤ l.length) && holds [l]) := by
      intro h l e; unfold rightL; rw [if_neg (by omega), if_neg (by omega)]
    rw [hn g _ (by rw [gp, hp]), hn h P hp]
    have ask : ∀ id, 0 ≤ id ∧ id ≤ 65535 → (decide (8 ≤ (queryOf P id).length) && holds [queryOf P id]) = (decide (8 ≤ P.length) && holds [P]) ∨ tot (words P) = 0 ∨ tot (words (queryOf P id)) = 0 := by
      intro id hi
      rw [query_len h8]
      rcases query_right h8 hi with q | q
      · left; rw [q]
      · right; exact q
    rw [seen_msg hp h8]
    by_cases ha : qAsk (msgOf (S P)) = true
    · rw [if_pos ha]
      have el : ∀ i, loadNew ⟨⟨1, h.s, be16 P 4, h.d, 0⟩, 2, 0, true, h.l⟩ P i a b c d = queryOf P b := by
        intro i; unfold loadNew; rw [if_neg (by dsimp only; decide), if_neg (by dsimp only; decide), if_neg (by dsimp only; decide), if_pos rfl]
      rw [el]
      exact ask b hb
    rw [if_neg ha]
    by_cases hq : qIs (msgOf (S P)) = true
    · rw [if_pos hq]
      have el : ∀ i, loadNew ⟨⟨1, h.s, 0, h.d, be16 P 4⟩, 2, 0, false, h.l⟩ P i a b c d = queryOf P d := by
        intro i; unfold loadNew; rw [if_neg (by dsimp only; decide), if_neg (by dsimp only; decide), if_neg (by dsimp only; decide), if_neg (by dsimp only; decide)]
      rw [el]
      exact ask d hd
    · rw [if_neg hq]
      have el : ∀ i, loadNew ⟨⟨1, h.s, 0, h.d, 0⟩, 3, 0, false, h.l⟩ P i a b c d = P := by
        intro i; unfold loadNew; rw [if_neg (by dsimp only; decide), if_neg (by dsimp only; decide), if_pos rfl]
      rw [el]
      left; rfl
/-- has what a packet carries a right sum; is it nothing but bytes 0 -/
def rightOf (s : ByteArray) : Bool := rightL (hdRes s) (L (ipRest s))
theorem rw_sums {s : ByteArray} {a b c d : Int} (h : seenWhy s = 0) (hl : 1 < (seenOf s).l) (ha : 0 ≤ a ∧ a ≤ 4294967295) (hb : 0 ≤ b ∧ b ≤ 65535) (hc : 0 ≤ c ∧ c ≤ 4294967295) (hd : 0 ≤ d ∧ d ≤ 65535) (t : ByteArray) (ht : rwOut s a b c d = t) :
    rwWhy s = 0 ∧ 20 ≤ t.size ∧ ipOwn (L t) ≤ t.size ∧ holds [(L t).take (ipOwn (L t)).toNat] = true ∧
    (rightOf t = rightOf s ∨ tot (words (L (ipRest s))) = 0 ∨ tot (words (L (ipRest t))) = 0) := by
  obtain ⟨H, P, R, rfl, w, hw, hx, h8⟩ := taken_whole h
  rw [h8] at hl
  have h20 := w.h20
  obtain ⟨G, Q, wG, eG, eQ, y1, o1, zG, zQ, G8, G9, hwG, xG, iG⟩ := out_whole R (a := a) (b := b) (c := c) (d := d) w hw (by omega) ha hb hc hd
  obtain ⟨_, w8, w9, w12, w16⟩ := head_whole (Q := P) w ha hc (by omega) rfl
  rw [o1] at ht
  subst ht
  obtain ⟨g1, g2, g3⟩ := whole_to [] wG
  rw [← app_nil] at g1 g2 g3
  obtain ⟨f1, f2, f3⟩ := whole_to R w
  have ho : ipOwn (L (S (G ++ Q))) = (G.length : Int) := by rw [L_S, own_app (by omega), wG.own]
  refine ⟨y1, by rw [S_size]; simp; omega, by rw [ho, S_size]; simp; omega, ?_, ?_⟩
  · rw [ho, L_S, Int.toNat_natCast, List.take_left]; exact wG.sum
  · unfold rightOf hdRes
    rw [if_pos g1, if_pos f1, g2, g3, f2, f3, L_S, L_S]
    have ei : ipsOf (hdL H).s (hdL H).d = (H.drop 12).take 8 := ips_self h20
    have r := load_right (h := hdL H) (g := hdL G) (P := P) (a := a) (b := b) (c := c) (d := d) hw hb hd (by rw [eG]; exact w9) (by rw [eG]; exact w12) (by rw [eG]; exact w16)
    rw [ei, ← eQ] at r
    exact r
end Go.Proofs.YtjeaknipmdfkdaaGreatDoor
end

section
/- What an error is about, changed: plain laws. No walk. -/
set_option linter.unusedVariables false
set_option linter.unusedSimpArgs false
namespace Go.Proofs.YtjeaknipmdfkdaaGreatDoor
open Go.RowKit

theorem tot_ne {l : List UInt8} (h : at_ l 0 ≠ 0) (h2 : 2 ≤ l.length) : tot (words l) ≠ 0 := by
  match l, h, h2 with
  | x :: y :: r, h, _ =>
    have hx : at_ (x :: y :: r) 0 = (x.toNat : Int) := rfl
    have q := tot_nonneg (words_bd r)
    show tot (((x.toNat : Int) * 256 + (y.toNat : Int)) :: words r) ≠ 0
    rw [tot_cons]; omega
/-- the header ahead, changed; what follows, changed -/
def emHd (l : List UInt8) (a c : Int) : List UInt8 := lay (dtHd l a c) 10 (dtSum l a c)
def emLo (l : List UInt8) (a b c d : Int) : List UInt8 := crOf (l.drop (emAt l)) ((l.drop 12).take 8) (emTup l).p (emAsk l) a b c d
theorem em_parts {l : List UInt8} (hem : emWhy l = 0) (a b c d : Int) : emNew l a b c d = emHd l a c ++ emLo l a b c d := by
  rw [← dtOf_em hem]
  unfold dtOf emHd emLo lay
  simp only [List.append_assoc]
section
variable {l : List UInt8} (a c : Int) (h : 20 ≤ emAt l) (h2 : emAt l ≤ l.length)
include h h2
theorem emHd_len : (emHd l a c).length = emAt l := by
  unfold emHd; rw [lay_length (by rw [dtHd_len a c h h2]; omega), dtHd_len a c h h2]
theorem em_z12 : ((l.take (emAt l)).take 12).length = 12 := by simp; omega
theorem dtHd_at {i : Nat} (hi : i < 12 ∨ 20 ≤ i) (he : i < emAt l) : at_ (dtHd l a c) i = at_ l i := by
  have z12 := em_z12 h h2
  unfold dtHd
  rcases hi with hi | hi
  · rw [at_left (by omega), at_take hi, at_take he]
  · rw [at_right (by omega), at_right (by rw [z12, ipsOf_len]; omega), at_drop, at_take (by rw [z12, ipsOf_len]; omega), z12, ipsOf_len]
    congr 1; omega
theorem emHd_at {i : Nat} (hi : i < 10 ∨ 20 ≤ i) (he : i < emAt l) : at_ (emHd l a c) i = at_ l i := by
  unfold emHd
  rw [at_lay (by rw [dtHd_len a c h h2]; omega) (by omega), dtHd_at a c h h2 (by omega) he]
theorem emHd_is : emHd l a c = ((dtHd l a c).take 10 ++ put16 (dtSum l a c)) ++ (put32 a ++ (put32 c ++ (l.take (emAt l)).drop 20)) := by
  have z12 := em_z12 h h2
  have e : (dtHd l a c).drop 12 = put32 a ++ (put32 c ++ (l.take (emAt l)).drop 20) := by
    unfold dtHd ipsOf; rw [List.drop_left' z12]; simp only [List.append_assoc]
  unfold emHd lay
  rw [e]
theorem emHd_ips (ha : 0 ≤ a ∧ a ≤ 4294967295) (hc : 0 ≤ c ∧ c ≤ 4294967295) : be32 (emHd l a c) 12 = a ∧ be32 (emHd l a c) 16 = c := by
  have z : ((dtHd l a c).take 10 ++ put16 (dtSum l a c)).length = 12 := by
    rw [List.length_append, put16_length, List.length_take, dtHd_len a c h h2]; omega
  rw [emHd_is a c h h2]
  refine ⟨?_, ?_⟩
  · rw [be32_right (by omega), z, be32_put _ _ ha.1 ha.2]
  · rw [be32_right (by omega), z, show (16 - 12 : Nat) = (put32 a).length from rfl, be32_right (Nat.le_refl _), Nat.sub_self, be32_put _ _ hc.1 hc.2]
theorem emHd_tot : (tot (words (emHd l a c)) - tot (words (l.take (emAt l)))) % 65535 = 0 := by
  have z12 := em_z12 h h2
  have hz := dtHd_len a c h h2
  have z8 : ((l.drop 12).take 8).length = 8 := by simp; omega
  have e : l.take (emAt l) = (l.take (emAt l)).take 12 ++ ((l.drop 12).take 8 ++ (l.take (emAt l)).drop 20) := by
    have q1 : (l.drop 12).take 8 = ((l.take (emAt l)).drop 12).take 8 := by
      rw [List.drop_take, List.take_take, show min 8 (emAt l - 12) = 8 from by omega]
    have q2 : (l.take (emAt l)).drop 20 = ((l.take (emAt l)).drop 12).drop 8 := by rw [List.drop_drop]
    rw [q1, q2, List.take_append_drop, List.take_append_drop]
  have t1 : tot (words (l.take (emAt l))) = tot (words ((l.take (emAt l)).take 12)) + (tot (words ((l.drop 12).take 8)) + tot (words ((l.take (emAt l)).drop 20))) := by
    conv => lhs; rw [e]
    rw [words_even _ _ (by omega), tot_append, words_even _ _ (by omega), tot_append]
  have t2 : tot (words (dtHd l a c)) = tot (words ((l.take (emAt l)).take 12)) + (tot (words (ipsOf a c)) + tot (words ((l.take (emAt l)).drop 20))) := by
    unfold dtHd
    rw [words_even _ _ (by omega), tot_append, words_even _ _ (ips_ev a c), tot_append]
  have hn : dtSum l a c = updates (be16 l 10) ((l.drop 12).take 8) (ipsOf a c) := dtSum_is a c h h2
  have hnb : 0 ≤ dtSum l a c ∧ dtSum l a c ≤ 65535 := by rw [hn]; exact updates_bd (be16_bd _ _)
  have hb : be16 (dtHd l a c) 10 = be16 l 10 := by
    unfold be16
    rw [dtHd_at a c h h2 (by omega) (by omega), dtHd_at a c h h2 (by omega) (by omega)]
  have hu := updates_mod (n := be16 l 10) (a := (l.drop 12).take 8) (b := ipsOf a c) (be16_bd _ _) (by rw [z8, ipsOf_len]) (by omega)
  have ht : tot (words (emHd l a c)) = tot (words (dtHd l a c)) - be16 (dtHd l a c) 10 + dtSum l a c := lay_tot2 (by omega) (by decide) hnb
  rw [ht, hb, t2, t1, hn]
  omega
theorem emHd_holds (h4 : at_ l 0 / 16 = 4) : holds [emHd l a c] = holds [l.take (emAt l)] := by
  have f0 : at_ (emHd l a c) 0 = at_ l 0 := emHd_at a c h h2 (by omega) (by omega)
  have g0 : at_ (l.take (emAt l)) 0 = at_ l 0 := at_take (by omega)
  have hz := emHd_len a c h h2
  refine holds_same ?_ ?_ ?_
  · simp only [List.flatMap_cons, List.flatMap_nil, List.append_nil]; exact emHd_tot a c h h2
  · simp only [List.flatMap_cons, List.flatMap_nil, List.append_nil]; exact tot_ne (by rw [f0]; omega) (by omega)
  · simp only [List.flatMap_cons, List.flatMap_nil, List.append_nil]; exact tot_ne (by rw [g0]; omega) (by simp; omega)
end
/-- where its sum stands; 0: it does not -/
def emSumIn (l : List UInt8) : Nat := if at_ l 9 = 17 then emAt l + 6 else if at_ l 9 = 1 then emAt l + 2 else if emAt l + 18 ≤ l.length then emAt l + 16 else 0
theorem emLo_len {l : List UInt8} (hem : emWhy l = 0) (a b c d : Int) : (emLo l a b c d).length = l.length - emAt l := by
  obtain ⟨p1, p2, p3, _⟩ := emWhy_parts hem
  unfold emLo
  rw [crOf_len (by rw [List.length_drop]; omega), List.length_drop]
theorem emLo_flow {l : List UInt8} (hem : emWhy l = 0) (hp : at_ l 9 = 6 ∨ at_ l 9 = 17) {a b c d : Int} (hb : 0 ≤ b ∧ b ≤ 65535) (hd : 0 ≤ d ∧ d ≤ 65535) : be16 (emLo l a b c d) 0 = b ∧ be16 (emLo l a b c d) 2 = d := by
  obtain ⟨p1, p2, p3, _⟩ := emWhy_parts hem
  have z : (l.drop (emAt l)).length = l.length - emAt l := List.length_drop
  have hx : ∀ x ∈ [b, d], 0 ≤ x ∧ x ≤ 65535 := by intro x hx; simp at hx; rcases hx with rfl | rfl <;> assumption
  unfold emLo crOf
  rw [emTup_p]
  split
  · exact flow_src (by omega) (by decide) hb hd
  · split
    · exact flow_src (by omega) (by decide) hb hd
    · rw [if_pos (by omega)]
      exact ⟨be16_putW hx _ (k := 0) (by simp), be16_putW hx _ (k := 1) (by simp)⟩
theorem emLo_msg {l : List UInt8} (hp : at_ l 9 = 1) {a b c d : Int} : emLo l a b c d = queryOf (l.drop (emAt l)) (if emAsk l = true then b else d) := by
  unfold emLo crOf
  rw [emTup_p, if_neg (by omega), if_neg (by omega), if_neg (by omega)]
theorem emLo_at {l : List UInt8} (hem : emWhy l = 0) {a b c d : Int} {i : Nat} (hi : (at_ l 9 ≠ 1 → 4 ≤ i) ∧ (at_ l 9 = 1 → i < 4 ∨ 6 ≤ i) ∧ (emSumIn l ≠ 0 → emAt l + i ≠ emSumIn l ∧ emAt l + i ≠ emSumIn l + 1)) : at_ (emLo l a b c d) i = at_ l (emAt l + i) := by
  obtain ⟨p1, p2, p3, _, _, p6⟩ := emWhy_parts hem
  have z : (l.drop (emAt l)).length = l.length - emAt l := List.length_drop
  obtain ⟨i1, i2, i3⟩ := hi
  rw [← at_drop]
  unfold emSumIn at i3
  rcases p6 with h | h | ⟨h, _⟩
  · rw [if_neg (by omega), if_neg (by omega)] at i3
    unfold emLo crOf
    rw [emTup_p, if_neg (by omega)]
    by_cases h18 : 18 ≤ (l.drop (emAt l)).length
    · rw [if_pos ⟨h, h18⟩]
      rw [if_pos (by omega)] at i3
      exact flow_at (by omega) (by omega) (i1 (by omega)) (by omega)
    · rw [if_neg (fun q => h18 q.2), if_pos h, at_right (by rw [pw_len]; have := i1 (by omega); omega), at_drop, pw_len]
      congr 1; have := i1 (by omega); omega
  · rw [if_pos h] at i3
    unfold emLo crOf
    rw [emTup_p, if_pos h]
    exact flow_at (by omega) (by omega) (i1 (by omega)) (by omega)
  · rw [if_neg (by omega), if_pos h] at i3
    rw [emLo_msg h]
    have hq := i2 h
    unfold queryOf
    rw [at_lay (by rw [lay_length (by omega)]; omega) (by omega), at_lay (by omega) (by omega)]
theorem emWhy_to {d : List UInt8} (h1 : 20 ≤ emAt d) (h3 : emAt d + 8 ≤ d.length) (h4 : at_ d 0 / 16 = 4) (h5 : be16 d 6 % 8192 = 0) (h6 : at_ d 9 = 6 ∨ at_ d 9 = 17 ∨ (at_ d 9 = 1 ∧ qIs (emMsg d) = true)) : emWhy d = 0 := by
  have hb := at_bd d 0
  have he : ((emAt d : Nat) : Int) = emEnd d := by unfold emAt emEnd; omega
  unfold emWhy
  rw [if_neg (by omega), if_neg (by omega)]
  rcases h6 with h | h | ⟨h, hq⟩
  · rw [if_pos (Or.inl h)]
  · rw [if_pos (Or.inr h)]
  · rw [if_neg (by omega), if_neg (by omega), if_pos hq]
/-- between whom the changed packet goes -/
def emWant (l : List UInt8) (a b c d : Int) : Tup := if at_ l 9 = 1 then (if kindOf (at_ l (emAt l)) = 1 then ⟨at_ l 9, a, b, c, 0⟩ else ⟨at_ l 9, a, 0, c, d⟩) else ⟨at_ l 9, a, b, c, d⟩
theorem em_again {l : List UInt8} (hem : emWhy l = 0) {a b c d : Int} (ha : 0 ≤ a ∧ a ≤ 4294967295) (hb : 0 ≤ b ∧ b ≤ 65535) (hc : 0 ≤ c ∧ c ≤ 4294967295) (hd : 0 ≤ d ∧ d ≤ 65535) (D : List UInt8) (hD : emNew l a b c d = D) :
    D.length = l.length ∧ emAt D = emAt l ∧ emWhy D = 0 ∧ at_ D 9 = at_ l 9 ∧ at_ D (emAt l) = at_ D (emAt l) ∧ emTup D = emWant l a b c d ∧ holds [D.take (emAt D)] = holds [l.take (emAt l)] ∧ (at_ l 9 = 1 → emMsg D = emMsg l) ∧ at_ D 0 = at_ l 0 := by
  obtain ⟨p1, p2, p3, p4, p5, p6⟩ := emWhy_parts hem
  have hz : D.length = l.length := by rw [← hD]; exact emNew_len hem a b c d
  rw [em_parts hem] at hD
  have hh := emHd_len a c p1 (show emAt l ≤ l.length by omega)
  have hlow : ∀ i, i < 10 → at_ D i = at_ l i := by
    intro i hi
    rw [← hD, at_left (by omega), emHd_at a c p1 (by omega) (by omega) (by omega)]
  have hlo : ∀ i, at_ D (emAt l + i) = at_ (emLo l a b c d) i := by
    intro i
    rw [← hD, at_right (by omega), hh]; congr 1; omega
  have hlo16 : ∀ i, be16 D (emAt l + i) = be16 (emLo l a b c d) i := by
    intro i
    unfold be16
    rw [hlo, Nat.add_assoc, hlo]
  have he : emAt D = emAt l := by unfold emAt emEnd; rw [hlow 0 (by omega)]
  have h9 := hlow 9 (by omega)
  have h6 : be16 D 6 = be16 l 6 := by unfold be16; rw [hlow 6 (by omega), hlow 7 (by omega)]
  have hmsg : at_ l 9 = 1 → emMsg D = emMsg l := by
    intro h
    have q0 : at_ D (emAt l) = at_ l (emAt l) := by
      have := hlo 0
      rw [Nat.add_zero] at this
      rw [this, emLo_msg h, query_at (by rw [List.length_drop]; omega) (by omega), at_drop, Nat.add_zero]
    have q1 : at_ D (emAt l + 1) = at_ l (emAt l + 1) := by
      rw [hlo, emLo_msg h, query_at (by rw [List.length_drop]; omega) (by omega), at_drop]
    unfold emMsg
    rw [he, q0, q1]
  obtain ⟨i1, i2⟩ := emHd_ips a c p1 (show emAt l ≤ l.length by omega) ha hc
  have j1 : be32 D 12 = a := by rw [← hD, be32_left (by omega), i1]
  have j2 : be32 D 16 = c := by rw [← hD, be32_left (by omega), i2]
  have hwhy : emWhy D = 0 := by
    refine emWhy_to (by omega) (by omega) (by rw [hlow 0 (by omega)]; exact p4) (by rw [h6]; exact p5) ?_
    rw [h9]
    rcases p6 with h | h | ⟨h, hq⟩
    · exact Or.inl h
    · exact Or.inr (Or.inl h)
    · exact Or.inr (Or.inr ⟨h, by rw [hmsg h]; exact hq⟩)
  refine ⟨hz, he, hwhy, h9, rfl, ?_, ?_, hmsg, hlow 0 (by omega)⟩
  · unfold emTup emWant
    rw [h9, j1, j2, he]
    rcases p6 with h | h | ⟨h, hq⟩
    · obtain ⟨f1, f2⟩ := emLo_flow hem (Or.inl h) (a := a) (c := c) hb hd
      have g0 := hlo16 0; have g2 := hlo16 2
      rw [Nat.add_zero] at g0
      rw [if_pos (Or.inl h), if_neg (by omega), g0, g2, f1, f2]
    · obtain ⟨f1, f2⟩ := emLo_flow hem (Or.inr h) (a := a) (c := c) hb hd
      have g0 := hlo16 0; have g2 := hlo16 2
      rw [Nat.add_zero] at g0
      rw [if_pos (Or.inr h), if_neg (by omega), g0, g2, f1, f2]
    · have hc0 : (emMsg l).c = 0 := by
        unfold qIs at hq
        simp only [Bool.and_eq_true, decide_eq_true_eq] at hq
        exact hq.1
      have ht : (emMsg l).t = at_ l (emAt l) := rfl
      have g4 := hlo16 4
      rw [emLo_msg h] at g4
      have ha : emAsk l = decide (kindOf (at_ l (emAt l)) = 1) := by
        unfold emAsk
        rw [qAsk_of hc0, ht]
        simp [h]
      rw [hmsg h, if_neg (by omega), if_pos h, qAsk_of hc0, ht]
      rw [ha] at g4
      by_cases hk : kindOf (at_ l (emAt l)) = 1
      · rw [if_pos (by simpa using hk), if_pos hk, g4, if_pos (by simpa using hk), query_id (by rw [List.length_drop]; omega) hb]
      · rw [if_neg (by simpa using hk), if_neg hk, g4, if_neg (by simpa using hk), query_id (by rw [List.length_drop]; omega) hd]
  · rw [he, ← hD, List.take_left' hh]
    exact emHd_holds a c p1 (by omega) p4
end Go.Proofs.YtjeaknipmdfkdaaGreatDoor
end

section
/- An error, translated: plain laws. No walk. -/
set_option linter.unusedVariables false
set_option linter.unusedSimpArgs false
namespace Go.Proofs.YtjeaknipmdfkdaaGreatDoor
open Go.RowKit

theorem at_ext {a b : List UInt8} (hz : a.length = b.length) (h : ∀ i, i < a.length → at_ a i = at_ b i) : a = b := by
  apply List.ext_getElem hz
  intro i h1 h2
  have q := h i h1
  unfold at_ at q
  rw [List.getD_eq_getElem?_getD, List.getD_eq_getElem?_getD, List.getElem?_eq_getElem h1, List.getElem?_eq_getElem h2] at q
  simp only [Option.getD_some] at q
  exact UInt8.toNat_inj.1 (by omega)
/-- the sum of an error's message, and the message, changed -/
def trSum (P : List UInt8) (a b c d : Int) : Int := updates (be16 P 2) ((P.drop 8).take (emEven (P.drop 8))) ((emNew (P.drop 8) a b c d).take (emEven (P.drop 8)))
def trLow (P : List UInt8) (a b c d : Int) : List UInt8 := lay (P.take 8 ++ emNew (P.drop 8) a b c d) 2 (trSum P a b c d)
theorem err_of {G P : List UInt8} (R : List UInt8) (w : Whole G P) (h9 : at_ G 9 = 1) (h8 : 8 ≤ P.length) (hk : kindOf (at_ P 0) = 3) (hem : emWhy (P.drop 8) = 0) :
    seenWhy (S (G ++ P ++ R)) = 0 ∧ seenOf (S (G ++ P ++ R)) = ⟨⟨1, be32 G 12, 0, be32 G 16, 0⟩, 3, 0, false, at_ G 8⟩ ∧ ipWhy (S (G ++ P ++ R)) = 0 ∧ ipRest (S (G ++ P ++ R)) = S P ∧ emData (S (G ++ P ++ R)) = S (P.drop 8) ∧ emsWhy (S (G ++ P ++ R)) = 0 := by
  obtain ⟨e1, e2, e3⟩ := seen_whole R w
  obtain ⟨i1, i2, i3⟩ := whole_to R w
  have hq : qErr (msgOf (S P)) = true := by unfold qErr; rw [msg_t, hk]; rfl
  have hi : qIs (msgOf (S P)) = false := by unfold qIs; rw [msg_t, hk]; simp
  have ha : qAsk (msgOf (S P)) = false := by unfold qAsk; rw [msg_t, hk]; simp
  have hw : loadWhy (at_ G 9) (S P) = 0 := by
    unfold loadWhy
    rw [h9, if_neg (by decide), if_neg (by decide), if_pos rfl, if_neg (by rw [S_size]; omega), if_pos (Or.inr hq)]
  rw [hw] at e1
  have e4 := e2 hw
  have e5 : loadSeen (hdL G) (S P) = ⟨⟨1, be32 G 12, 0, be32 G 16, 0⟩, 3, 0, false, at_ G 8⟩ := by
    rw [seen_msg (h := hdL G) h9 h8, ha, hi, if_neg (by decide), if_neg (by decide)]
    rfl
  rw [e5] at e4
  obtain ⟨d1, d2⟩ := emData_of i3
  refine ⟨e1, e4, i1, i3, d1, ?_⟩
  unfold emsWhy
  rw [if_neg (by omega), e4, d1, L_S]
  exact (if_neg (by simp)).trans hem
theorem tr_parts {s : ByteArray} {oa ob oc od a b c d : Int} (h : emsWhy s = 0) (hl : 1 < (seenOf s).l) :
    ∃ H P R : List UInt8, s = S (H ++ P ++ R) ∧ Whole H P ∧ at_ H 9 = 1 ∧ 8 ≤ P.length ∧ kindOf (at_ P 0) = 3 ∧ emWhy (P.drop 8) = 0 ∧ 1 < at_ H 8 ∧ rwWhy s = 0 ∧ trWhy s = 0 ∧ rwOut s oa ob oc od = S (headNew H oa oc ++ P) ∧ trOut s oa ob oc od a b c d = S (headNew H oa oc ++ trLow P a b c d) := by
  obtain ⟨q1, q2, q3⟩ := ems_seen h
  obtain ⟨H, P, R, hs, w, h1, h2, h3, h4, h5, h6, h7, h8⟩ := err_whole q1 q2
  obtain ⟨d1, d2⟩ := emData_of h4
  rw [d1, L_S] at q3
  have hk : kindOf (at_ P 0) = 3 := by unfold qErr at h7; rw [msg_t] at h7; simpa using h7
  have hrw : rwWhy s = 0 := by unfold rwWhy; rw [if_neg (by omega), if_neg (by omega)]
  have htr : trWhy s = 0 := by unfold trWhy; rw [if_neg (by omega), hrw]
  obtain ⟨e1, e2, e3⟩ := seen_whole R w
  rw [← hs] at e3
  have ho : rwOut s oa ob oc od = S (headNew H oa oc ++ P) := by
    unfold rwOut
    rw [if_pos hrw, e3]
    unfold loadNew
    rw [h2] at q2 ⊢
    have hp : (loadSeen (hdL H) (S P)).t.p = 1 := by
      obtain ⟨g1, g2, g3, g4, g5, g6⟩ := err_of R w h5 h6 hk q3
      rw [← hs, h2] at g2
      rw [g2]
    rw [if_neg (by omega), if_neg (by omega), if_pos q2]
  have hhl := headNew_length (H := H) oa oc w.h20
  refine ⟨H, P, R, hs, w, h5, h6, hk, q3, by omega, hrw, htr, ho, ?_⟩
  unfold trOut
  rw [if_pos htr]
  refine congrArg S ?_
  unfold trNew
  rw [ho, S_size, L_S, d1, S_size, List.length_append, List.length_drop, show (headNew H oa oc).length + P.length - (P.length - 8) = (headNew H oa oc).length + 8 from by omega, show (headNew H oa oc).length + 8 - 6 = (headNew H oa oc).length + 2 from by omega, List.take_length_add_append, L_S, List.append_assoc, ← app_lay (k := (headNew H oa oc).length + 2) (j := 2) rfl]
  have e9 : emSum s a b c d = trSum P a b c d := by unfold emSum trSum; rw [d2, d1, L_S]
  rw [e9]
  rfl
section
variable {P : List UInt8} (h8 : 8 ≤ P.length) (hem : emWhy (P.drop 8) = 0) (a b c d : Int)
include h8 hem
theorem low_len0 : (P.take 8 ++ emNew (P.drop 8) a b c d).length = P.length := by
  rw [List.length_append, emNew_len hem, List.length_take, List.length_drop]; omega
theorem low_len : (trLow P a b c d).length = P.length := by
  unfold trLow
  rw [lay_length (by rw [low_len0 h8 hem]; omega), low_len0 h8 hem]
theorem low_drop : (trLow P a b c d).drop 8 = emNew (P.drop 8) a b c d := by
  unfold trLow
  have e : (lay (P.take 8 ++ emNew (P.drop 8) a b c d) 2 (trSum P a b c d)).drop 4 = (P.take 8 ++ emNew (P.drop 8) a b c d).drop 4 := lay_drop (k := 2) (by rw [low_len0 h8 hem]; omega)
  rw [show 8 = 4 + 4 from rfl, ← List.drop_drop, show 4 + 4 = 8 from rfl, e, List.drop_drop, List.drop_left' (by simp; omega)]
theorem low_at {i : Nat} (hi : i < 2 ∨ 4 ≤ i) (h : i < 8) : at_ (trLow P a b c d) i = at_ P i := by
  unfold trLow
  rw [at_lay (by rw [low_len0 h8 hem]; omega) (by omega), at_left (by rw [List.length_take]; omega), at_take h]
theorem low_sum : be16 (trLow P a b c d) 2 = trSum P a b c d := by
  unfold trLow
  exact lay_at (by rw [low_len0 h8 hem]; omega) (updates_bd (be16_bd _ _))
omit h8 in
theorem em_last : (emNew (P.drop 8) a b c d).drop (emEven (P.drop 8)) = (P.drop 8).drop (emEven (P.drop 8)) := by
  obtain ⟨p1, p2, p3, _⟩ := emWhy_parts hem
  have hz := emNew_len hem a b c d
  have hev : emAt (P.drop 8) % 4 = 0 := by
    have hb := at_bd (P.drop 8) 0
    unfold emAt emEnd; omega
  generalize P.drop 8 = D at *
  refine at_ext (by rw [List.length_drop, List.length_drop, hz]) ?_
  intro i hi
  rw [List.length_drop, hz] at hi
  have hlen := emHd_len a c p1 (show emAt D ≤ D.length by omega)
  have hE : emEven D = D.length / 2 * 2 := rfl
  rw [at_drop, at_drop, em_parts hem, at_right (by omega), hlen, emLo_at hem]
  · congr 1; omega
  · refine ⟨by omega, by omega, ?_⟩
    unfold emSumIn
    split
    · omega
    · split
      · omega
      · split <;> omega
omit h8 in
theorem low_mod : (trSum P a b c d - (be16 P 2 + tot (words (P.drop 8)) - tot (words (emNew (P.drop 8) a b c d)))) % 65535 = 0 := by
  have hz := emNew_len hem a b c d
  have hl := em_last hem a b c d
  unfold trSum
  generalize P.drop 8 = D at *
  have z1 : (D.take (emEven D)).length = emEven D := by rw [List.length_take]; unfold emEven; omega
  have z2 : ((emNew D a b c d).take (emEven D)).length = emEven D := by rw [List.length_take, hz]; unfold emEven; omega
  have hE : emEven D % 2 = 0 := by unfold emEven; omega
  have hu := updates_mod (n := be16 P 2) (a := D.take (emEven D)) (b := (emNew D a b c d).take (emEven D)) (be16_bd _ _) (by rw [z1, z2]) (by rw [z1]; exact hE)
  have t1 : tot (words D) = tot (words (D.take (emEven D))) + tot (words (D.drop (emEven D))) := by
    conv => lhs; rw [← List.take_append_drop (emEven D) D]
    rw [words_even _ _ (by rw [z1]; exact hE), tot_append]
  have t2 : tot (words (emNew D a b c d)) = tot (words ((emNew D a b c d).take (emEven D))) + tot (words (D.drop (emEven D))) := by
    conv => lhs; rw [← List.take_append_drop (emEven D) (emNew D a b c d)]
    rw [words_even _ _ (by rw [z2]; exact hE), tot_append, hl]
  rw [t1, t2]
  omega
theorem low_holds (hk : kindOf (at_ P 0) = 3) : holds [trLow P a b c d] = holds [P] := by
  have hz := low_len h8 hem a b c d
  have f0 := low_at h8 hem a b c d (i := 0) (by omega) (by omega)
  have k0 : at_ P 0 ≠ 0 := by intro e; rw [e] at hk; unfold kindOf at hk; simp at hk
  have hm := low_mod hem a b c d
  have hb : 0 ≤ trSum P a b c d ∧ trSum P a b c d ≤ 65535 := updates_bd (be16_bd _ _)
  have z8 : (P.take 8).length = 8 := by simp; omega
  have t1 : tot (words P) = tot (words (P.take 8)) + tot (words (P.drop 8)) := by
    conv => lhs; rw [← List.take_append_drop 8 P]
    rw [words_even _ _ (by rw [z8]), tot_append]
  have g2 : be16 (P.take 8 ++ emNew (P.drop 8) a b c d) 2 = be16 P 2 := by rw [be16_left (by omega), be16_take (by omega)]
  have t2 : tot (words (trLow P a b c d)) = tot (words (P.take 8)) + tot (words (emNew (P.drop 8) a b c d)) - be16 P 2 + trSum P a b c d := by
    unfold trLow
    rw [lay_tot2 (by rw [low_len0 h8 hem]; omega) (by decide) hb, g2, words_even _ _ (by rw [z8]), tot_append]
  refine holds_same ?_ ?_ ?_
  · simp only [List.flatMap_cons, List.flatMap_nil, List.append_nil]
    rw [t1, t2]; omega
  · simp only [List.flatMap_cons, List.flatMap_nil, List.append_nil]; exact tot_ne (by rw [f0]; exact k0) (by omega)
  · simp only [List.flatMap_cons, List.flatMap_nil, List.append_nil]; exact tot_ne k0 (by omega)
end
end Go.Proofs.YtjeaknipmdfkdaaGreatDoor
end
