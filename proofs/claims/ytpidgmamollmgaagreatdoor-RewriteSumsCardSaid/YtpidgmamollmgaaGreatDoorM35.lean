/- Several texts of this claim, one behind the other. -/
import Derived.Test.YtpidgmamollmgaaGreatDoorM32

section
/- Packets, changed: what the statements say of them, plain. No walk. -/
set_option linter.unusedVariables false
namespace Go.Proofs.YtpidgmamollmgaaGreatDoor
open Go.RowKit

theorem load_ends (h : Hd) (l : ByteArray) : (loadSeen h l).t.a = h.s ∧ (loadSeen h l).t.c = h.d ∧ (loadSeen h l).l = h.l := by
  unfold loadSeen
  split
  · exact ⟨rfl, rfl, rfl⟩
  split
  · exact ⟨rfl, rfl, rfl⟩
  split
  · exact ⟨rfl, rfl, rfl⟩
  split <;> exact ⟨rfl, rfl, rfl⟩
theorem load_ports (h : Hd) (l : ByteArray) : (0 ≤ (loadSeen h l).t.b ∧ (loadSeen h l).t.b ≤ 65535) ∧ (0 ≤ (loadSeen h l).t.d ∧ (loadSeen h l).t.d ≤ 65535) := by
  have g := fun l' i => get16_bd l' i
  unfold loadSeen
  split
  · exact ⟨g _ _, g _ _⟩
  split
  · exact ⟨g _ _, g _ _⟩
  split
  · exact ⟨g _ _, by dsimp only; omega⟩
  split
  · exact ⟨by dsimp only; omega, g _ _⟩
  · exact ⟨by dsimp only; omega, by dsimp only; omega⟩
theorem seenTo_sum (x : Seen) (a b c d : Int) (own : Nat) : sumAtL (seenTo x a b c d) own = sumAtL x own := by
  unfold seenTo
  split
  · rfl
  split
  · rfl
  split <;> rfl
theorem seenTo_l (x : Seen) (a b c d : Int) : (seenTo x a b c d).l = x.l - 1 := by
  unfold seenTo
  split
  · rfl
  split
  · rfl
  split <;> rfl
theorem taken_whole {s : ByteArray} (h : seenWhy s = 0) : ∃ H P R, s = S (H ++ P ++ R) ∧ Whole H P ∧ loadWhy (at_ H 9) (S P) = 0 ∧ seenOf s = loadSeen (hdL H) (S P) ∧ (seenOf s).l = at_ H 8 := by
  have hip : ipWhy s = 0 := by
    unfold seenWhy at h
    by_cases hi : ipWhy s = 0
    · exact hi
    · rw [if_neg hi] at h; exact h
  obtain ⟨H, P, R, rfl, w⟩ := whole_of hip
  obtain ⟨e1, e2, _⟩ := seen_whole R w
  rw [e1] at h
  exact ⟨H, P, R, rfl, w, h, e2 h, by rw [e2 h]; exact (load_ends _ _).2.2⟩
/-- what a whole packet is, changed -/
theorem out_whole {H P : List UInt8} (R : List UInt8) {a b c d : Int} (w : Whole H P) (hw : loadWhy (at_ H 9) (S P) = 0) (h8 : 2 ≤ at_ H 8) (ha : 0 ≤ a ∧ a ≤ 4294967295) (hb : 0 ≤ b ∧ b ≤ 65535) (hc : 0 ≤ c ∧ c ≤ 4294967295) (hd : 0 ≤ d ∧ d ≤ 65535) :
    ∃ G Q, Whole G Q ∧ G = headNew H a c ∧ Q = loadNew (loadSeen (hdL H) (S P)) P ((H.drop 12).take 8) a b c d ∧ rwWhy (S (H ++ P ++ R)) = 0 ∧ rwOut (S (H ++ P ++ R)) a b c d = S (G ++ Q) ∧ G.length = H.length ∧ Q.length = P.length ∧ at_ G 8 = at_ H 8 - 1 ∧ at_ G 9 = at_ H 9 ∧
      loadWhy (at_ G 9) (S Q) = 0 ∧ loadSeen (hdL G) (S Q) = seenTo (loadSeen (hdL H) (S P)) a b c d ∧ (G.drop 12).take 8 = ipsOf a c := by
  obtain ⟨c1, c2, c3, c4, c5, c6⟩ := change w hw (by omega) ha hb hc hd
  obtain ⟨e1, e2, e3⟩ := seen_whole R w
  have hy : rwWhy (S (H ++ P ++ R)) = 0 := by
    unfold rwWhy
    rw [e1, if_neg (by omega), e2 hw, if_neg]
    rw [(load_ends _ _).2.2]
    show ¬ at_ H 8 < 2
    omega
  refine ⟨_, _, c1, rfl, rfl, hy, ?_, headNew_length a c w.h20, c2, c4, c3, by rw [c3]; exact c5, c6, ips_new a c w.h20⟩
  unfold rwOut
  rw [if_pos hy, e3, e2 hw]
def plainOf (s : ByteArray) : ByteArray := S (plainL (L s) (sumAtL (seenOf s) (ipOwn (L s)).toNat))
theorem plainOf_whole {H P : List UInt8} (w : Whole H P) (hw : loadWhy (at_ H 9) (S P) = 0) : plainOf (S (H ++ P)) = S (plainL (H ++ P) (sumAtL (loadSeen (hdL H) (S P)) H.length)) := by
  obtain ⟨e1, e2, e3⟩ := seen_whole [] w
  rw [List.append_nil] at e2
  have h20 := w.h20
  unfold plainOf
  rw [e2 hw, L_S, own_app (by omega), w.own, Int.toNat_natCast]
theorem app_nil (l : List UInt8) : S l = S (l ++ []) := by rw [List.append_nil]

theorem rw_twice {s : ByteArray} {a b c d a2 b2 c2 d2 : Int} (h : seenWhy s = 0) (hl : 2 < (seenOf s).l) (ha : 0 ≤ a ∧ a ≤ 4294967295) (hb : 0 ≤ b ∧ b ≤ 65535) (hc : 0 ≤ c ∧ c ≤ 4294967295) (hd : 0 ≤ d ∧ d ≤ 65535)
    (ha2 : 0 ≤ a2 ∧ a2 ≤ 4294967295) (hb2 : 0 ≤ b2 ∧ b2 ≤ 65535) (hc2 : 0 ≤ c2 ∧ c2 ≤ 4294967295) (hd2 : 0 ≤ d2 ∧ d2 ≤ 65535) :
    rwWhy s = 0 ∧ rwWhy (rwOut s a b c d) = 0 ∧ 20 ≤ (rwOut (rwOut s a b c d) a2 b2 c2 d2).size ∧ 20 ≤ (rwOut s a2 b2 c2 d2).size ∧
    plainOf (rwOut (rwOut s a b c d) a2 b2 c2 d2) = plainOf (rwOut s a2 b2 c2 d2) := by
  obtain ⟨H, P, R, rfl, w, hw, hx, h8⟩ := taken_whole h
  rw [h8] at hl
  have h20 := w.h20
  obtain ⟨G, Q, wG, eG, eQ, y1, o1, zG, zQ, G8, G9, hwG, xG, iG⟩ := out_whole R (a := a) (b := b) (c := c) (d := d) w hw (by omega) ha hb hc hd
  obtain ⟨K, U, wK, eK, eU, y2, o2, zK, zU, K8, K9, hwK, xK, iK⟩ := out_whole [] (a := a2) (b := b2) (c := c2) (d := d2) wG hwG (by omega) ha2 hb2 hc2 hd2
  obtain ⟨M, V, wM, eM, eV, y3, o3, zM, zV, M8, M9, hwM, xM, iM⟩ := out_whole R (a := a2) (b := b2) (c := c2) (d := d2) w hw (by omega) ha2 hb2 hc2 hd2
  rw [← app_nil] at y2 o2
  rw [o1, o2, o3]
  refine ⟨y1, y2, ?_, ?_, ?_⟩
  · rw [S_size]; simp; omega
  · rw [S_size]; simp; omega
  · rw [plainOf_whole wK hwK, plainOf_whole wM hwM, xK, xM, xG, seenTo_sum, seenTo_sum, seenTo_sum]
    have hi : ((H.drop 12).take 8).length = 8 := by simp; omega
    have lk := (load_two (h := hdL H) (g := hdL G) (P := P) (ips := (H.drop 12).take 8) (a := a) (b := b) (c := c) (d := d) (a2 := a2) (b2 := b2) (c2 := c2) (d2 := d2) hw hi hb hd hb2 hd2).1
    rw [← eQ, ← eV, ← iG, ← xG, ← eU] at lk
    congr 1
    exact Like.plain (H := K) (G := M) lk (by omega) (by omega) (by rw [eK, eM, eG, zero_twice _ _ _ _ h20])
theorem rw_back {s : ByteArray} {a b c d : Int} (h : seenWhy s = 0) (hl : 2 < (seenOf s).l) (ha : 0 ≤ a ∧ a ≤ 4294967295) (hb : 0 ≤ b ∧ b ≤ 65535) (hc : 0 ≤ c ∧ c ≤ 4294967295) (hd : 0 ≤ d ∧ d ≤ 65535) (u : ByteArray) (hu : rwOut (rwOut s a b c d) (seenOf s).t.a (seenOf s).t.b (seenOf s).t.c (seenOf s).t.d = u) :
    rwWhy s = 0 ∧ rwWhy (rwOut s a b c d) = 0 ∧ 20 ≤ u.size ∧ u.size ≤ s.size ∧ at_ (L u) 8 = at_ (L s) 8 - 2 ∧ plainOf u = plainOf (s.extract 0 u.size) := by
  obtain ⟨H, P, R, rfl, w, hw, hx, h8⟩ := taken_whole h
  rw [h8] at hl
  have h20 := w.h20
  obtain ⟨ea, ec, _⟩ := load_ends (hdL H) (S P)
  obtain ⟨hb2, hd2⟩ := load_ports (hdL H) (S P)
  have ha2 : 0 ≤ (loadSeen (hdL H) (S P)).t.a ∧ (loadSeen (hdL H) (S P)).t.a ≤ 4294967295 := by rw [ea]; exact be32_bd _ _
  have hc2 : 0 ≤ (loadSeen (hdL H) (S P)).t.c ∧ (loadSeen (hdL H) (S P)).t.c ≤ 4294967295 := by rw [ec]; exact be32_bd _ _
  rw [hx] at hu
  obtain ⟨G, Q, wG, eG, eQ, y1, o1, zG, zQ, G8, G9, hwG, xG, iG⟩ := out_whole R (a := a) (b := b) (c := c) (d := d) w hw (by omega) ha hb hc hd
  obtain ⟨K, U, wK, eK, eU, y2, o2, zK, zU, K8, K9, hwK, xK, iK⟩ := out_whole [] (a := (loadSeen (hdL H) (S P)).t.a) (b := (loadSeen (hdL H) (S P)).t.b) (c := (loadSeen (hdL H) (S P)).t.c) (d := (loadSeen (hdL H) (S P)).t.d) wG hwG (by omega) ha2 hb2 hc2 hd2
  rw [← app_nil] at y2 o2
  rw [o1, o2] at hu
  subst hu
  rw [o1]
  have zu : (S (K ++ U)).size = H.length + P.length := by rw [S_size]; simp; omega
  have zs : (S (H ++ P ++ R)).size = H.length + P.length + R.length := by rw [S_size]; simp; omega
  have ex : (S (H ++ P ++ R)).extract 0 (S (K ++ U)).size = S (H ++ P) := by
    rw [← S_L ((S (H ++ P ++ R)).extract _ _), L_to, zu, L_S, List.take_left' (by simp)]
  refine ⟨y1, y2, by omega, by omega, ?_, ?_⟩
  · rw [L_S, L_S, List.append_assoc, at_left (by omega), at_left (by omega)]; omega
  · rw [ex, plainOf_whole wK hwK, plainOf_whole w hw, xK, xG, seenTo_sum, seenTo_sum]
    have hi : ((H.drop 12).take 8).length = 8 := by simp; omega
    have lk := (load_two (h := hdL H) (g := hdL G) (P := P) (ips := (H.drop 12).take 8) (a := a) (b := b) (c := c) (d := d) (a2 := (loadSeen (hdL H) (S P)).t.a) (b2 := (loadSeen (hdL H) (S P)).t.b) (c2 := (loadSeen (hdL H) (S P)).t.c) (d2 := (loadSeen (hdL H) (S P)).t.d) hw hi hb hd hb2 hd2).2 (by rw [ea, ec]; exact ips_self h20) rfl rfl
    rw [← eQ, ← iG, ← xG, ← eU] at lk
    congr 1
    refine Like.plain (H := K) (G := H) lk (by omega) (by omega) ?_
    rw [eK, eG, ea, ec]
    exact zero_back a c h20

/-- the places in which a packet that was changed may be another one -/
def okAt (x : Seen) (own k i : Nat) : Prop := (8 ≤ i ∧ i < 20 ∧ i ≠ 9) ∨ (x.t.p ≠ 1 ∧ own ≤ i ∧ i < own + 4) ∨ (x.t.p = 1 ∧ 0 < k ∧ own + 4 ≤ i ∧ i < own + 6) ∨ (k ≠ 0 ∧ (i = k ∨ i = k + 1))
theorem load_at {h : Hd} {P ips : List UInt8} {a b c d : Int} (hw : loadWhy h.p (S P) = 0) (own j : Nat) :
    at_ (loadNew (loadSeen h (S P)) P ips a b c d) j = at_ P j ∨ okAt (loadSeen h (S P)) own (sumAtL (loadSeen h (S P)) own) (own + j) := by
  rcases load_cases hw with ⟨hp, ht⟩ | ⟨hp, ht⟩ | ⟨hp, h8, ht⟩
  · have hz := tcpIs_len ht
    rw [seen_tcp hp hz]
    unfold loadNew sumAtL okAt
    rw [if_pos rfl, if_pos rfl]
    simp only
    by_cases hj : 4 ≤ j ∧ (j < 16 ∨ 18 ≤ j)
    · left; exact flow_at (by omega) (by omega) hj.1 hj.2
    · right; omega
  · have hz := udpIs_len ht
    rw [seen_udp hp hz]
    unfold loadNew sumAtL okAt
    rw [if_neg (by dsimp only; decide), if_pos rfl, if_neg (by dsimp only; decide), if_pos rfl]
    simp only
    by_cases hj : 4 ≤ j ∧ (j < 6 ∨ 8 ≤ j)
    · left; exact flow_at (by omega) (by omega) hj.1 hj.2
    · right; omega
  · have ask : ∀ id, at_ (queryOf P id) j = at_ P j ∨ (2 ≤ j ∧ j < 6) := by
      intro id
      by_cases hj : j < 2 ∨ 6 ≤ j
      · left; exact query_at h8 hj
      · right; omega
    rw [seen_msg hp h8]
    by_cases ha : qAsk (msgOf (S P)) = true
    · rw [if_pos ha]
      unfold loadNew sumAtL okAt
      rw [if_neg (by dsimp only; decide), if_neg (by dsimp only; decide), if_neg (by dsimp only; decide), if_pos rfl, if_neg (by dsimp only; decide), if_neg (by dsimp only; decide), if_neg (by dsimp only; decide)]
      rcases ask b with q | q
      · exact Or.inl q
      · by_cases h4 : j < 4
        · exact Or.inr (Or.inr (Or.inr (Or.inr ⟨by omega, by omega⟩)))
        · exact Or.inr (Or.inr (Or.inr (Or.inl ⟨rfl, by omega, by omega, by omega⟩)))
    rw [if_neg ha]
    by_cases hq : qIs (msgOf (S P)) = true
    · rw [if_pos hq]
      unfold loadNew sumAtL okAt
      rw [if_neg (by dsimp only; decide), if_neg (by dsimp only; decide), if_neg (by dsimp only; decide), if_neg (by dsimp only; decide), if_neg (by dsimp only; decide), if_neg (by dsimp only; decide), if_neg (by dsimp only; decide)]
      rcases ask d with q | q
      · exact Or.inl q
      · by_cases h4 : j < 4
        · exact Or.inr (Or.inr (Or.inr (Or.inr ⟨by omega, by omega⟩)))
        · exact Or.inr (Or.inr (Or.inr (Or.inl ⟨rfl, by omega, by omega, by omega⟩)))
    · rw [if_neg hq]
      left
      unfold loadNew
      rw [if_neg (by dsimp only; decide), if_neg (by dsimp only; decide), if_pos rfl]
theorem rw_seen {s : ByteArray} {a b c d : Int} (h : seenWhy s = 0) (hl : 1 < (seenOf s).l) (ha : 0 ≤ a ∧ a ≤ 4294967295) (hb : 0 ≤ b ∧ b ≤ 65535) (hc : 0 ≤ c ∧ c ≤ 4294967295) (hd : 0 ≤ d ∧ d ≤ 65535) (t : ByteArray) (ht : rwOut s a b c d = t) :
    rwWhy s = 0 ∧ seenWhy t = 0 ∧ seenOf t = seenTo (seenOf s) a b c d ∧ 20 ≤ t.size ∧ t.size ≤ s.size ∧ (∀ i, i < t.size → at_ (L s) i = at_ (L t) i ∨ okAt (seenOf s) (ipOwn (L t)).toNat (sumAtL (seenOf t) (ipOwn (L t)).toNat) i) := by
  obtain ⟨H, P, R, rfl, w, hw, hx, h8⟩ := taken_whole h
  rw [h8] at hl
  have h20 := w.h20
  obtain ⟨G, Q, wG, eG, eQ, y1, o1, zG, zQ, G8, G9, hwG, xG, iG⟩ := out_whole R (a := a) (b := b) (c := c) (d := d) w hw (by omega) ha hb hc hd
  rw [o1] at ht
  subst ht
  obtain ⟨e1, e2, e3⟩ := seen_whole [] wG
  rw [← app_nil] at e1 e2
  have hs : seenOf (S (G ++ Q)) = seenTo (seenOf (S (H ++ P ++ R))) a b c d := by rw [e2 hwG, xG, hx]
  have ho : (ipOwn (L (S (G ++ Q)))).toNat = H.length := by rw [L_S, own_app (by omega), wG.own, Int.toNat_natCast, zG]
  refine ⟨y1, by rw [e1]; exact hwG, hs, by rw [S_size]; simp; omega, by rw [S_size, S_size]; simp; omega, ?_⟩
  intro i hi
  rw [S_size] at hi
  simp at hi
  rw [hs, seenTo_sum, ho, hx, L_S, L_S, List.append_assoc]
  by_cases hH : i < H.length
  · rw [at_left hH, at_left (by omega)]
    by_cases hk : i < 8 ∨ i = 9 ∨ 20 ≤ i
    · left; rw [eG, head_at a c h20 hk]
    · right; left; omega
  · obtain ⟨j, rfl⟩ : ∃ j, i = H.length + j := ⟨i - H.length, by omega⟩
    rw [at_right (a := H) (by omega), at_right (a := G) (by omega), at_left (a := P) (by omega), zG, show H.length + j - H.length = j from by omega, eQ]
    rcases load_at (a := a) (b := b) (c := c) (d := d) (ips := (H.drop 12).take 8) (h := hdL H) hw H.length j with q | q
    · left; exact q.symm
    · right; exact q
end Go.Proofs.YtpidgmamollmgaaGreatDoor
end

section
/- Packets, changed: whether what they carry has a right sum, plain. No walk. -/
set_option linter.unusedVariables false
namespace Go.Proofs.YtpidgmamollmgaaGreatDoor
open Go.RowKit

/-- has what a packet carries a right sum -/
def rightL (h : Hd) (P : List UInt8) : Bool := if h.p = 6 then tcpOk h.s h.d (S P) else if h.p = 17 then udpOk h.s h.d (S P) else decide (8 ≤ P.length) && holds [P]
theorem ips_ev (a b : Int) : (ipsOf a b).length % 2 = 0 := by rw [show (ipsOf a b).length = 8 from rfl]
theorem pw_ev (b d : Int) : (putW [b, d]).length % 2 = 0 := by rw [pw_len]
theorem holds_same {ls ms : List (List UInt8)} (h : (tot (ls.flatMap words) - tot (ms.flatMap words)) % 65535 = 0) (h1 : tot (ls.flatMap words) ≠ 0) (h2 : tot (ms.flatMap words) ≠ 0) : holds ls = holds ms := by
  rw [Bool.eq_iff_iff, holds_iff, holds_iff]
  omega
theorem lay_tot2 {l : List UInt8} {k : Nat} {n : Int} (h : k + 2 ≤ l.length) (h2 : k % 2 = 0) (hn : 0 ≤ n ∧ n ≤ 65535) : tot (words (lay l k n)) = tot (words l) - be16 l k + n := by
  have e := lay_tot h h2 (be16_bd l k)
  rw [lay_self h] at e
  rw [lay_tot h h2 hn, e]; omega
theorem pseudo_tot (a b p : Int) (n : Nat) (l : List UInt8) (hp : 0 ≤ p ∧ p ≤ 255) : tot ([pseudo a b p n, l].flatMap words) = tot (words (ipsOf a b)) + (p + (n : Int) % 65536) + tot (words l) := by
  have e : pseudo a b p n = ipsOf a b ++ putW [p, (n : Int) % 65536] := rfl
  simp only [List.flatMap_cons, List.flatMap_nil, List.append_nil, tot_append]
  rw [e, words_even _ _ (ips_ev a b), tot_append, words_putW' (by intro x hx; simp at hx; rcases hx with rfl | rfl <;> omega)]
  simp only [tot_cons, tot_nil]; omega
theorem flow_right {P : List UInt8} {a b c d s0 d0 p : Int} {k : Nat} (h : k + 2 ≤ P.length) (h4 : 4 ≤ k) (h2 : k % 2 = 0) (hp : 1 ≤ p ∧ p ≤ 255) (hb : 0 ≤ b ∧ b ≤ 65535) (hd : 0 ≤ d ∧ d ≤ 65535) (h0 : k = 6 → be16 P k ≠ 0) :
    holds [pseudo a c p (flowNew P (ipsOf s0 d0) a b c d k).length, flowNew P (ipsOf s0 d0) a b c d k] = holds [pseudo s0 d0 p P.length, P] := by
  obtain ⟨m1, m2, m3⟩ := flow_mod (l := P) (ips := ipsOf s0 d0) (a := a) (b := b) (c := c) (d := d) h h4 rfl
  have q := m3 h0
  have ez : (flowNew P (ipsOf s0 d0) a b c d k).length = P.length := flow_len h (by omega)
  have eP : tot (words P) = tot (words (P.take 4)) + tot (words (P.drop 4)) := by
    conv => lhs; rw [← List.take_append_drop 4 P]
    rw [words_even _ _ (by simp; omega), tot_append]
  have eX : tot (words (putW [b, d] ++ P.drop 4)) = tot (words (putW [b, d])) + tot (words (P.drop 4)) := by rw [words_even _ _ (pw_ev b d), tot_append]
  have eN : be16 (putW [b, d] ++ P.drop 4) k = be16 P k := by
    rw [be16_right (by rw [pw_len]; omega), be16_drop, pw_len]; congr 1; omega
  have eQ : tot (words (flowNew P (ipsOf s0 d0) a b c d k)) = tot (words (putW [b, d])) + tot (words (P.drop 4)) - be16 P k + flowFix k (be16 P k) (flowSum P (ipsOf s0 d0) a b c d k) := by
    unfold flowNew
    rw [lay_tot2 (by simp [pw_len]; omega) h2 m1, eX, eN]
  have e1 : ends (ipsOf s0 d0) (P.take 4) = tot (words (ipsOf s0 d0)) + tot (words (P.take 4)) := by unfold ends; rw [words_even _ _ (ips_ev _ _), tot_append]
  have e2 : ends (ipsOf a c) (putW [b, d]) = tot (words (ipsOf a c)) + tot (words (putW [b, d])) := by unfold ends; rw [words_even _ _ (ips_ev _ _), tot_append]
  rw [e1, e2] at q
  have n1 := tot_nonneg (words_bd (ipsOf s0 d0))
  have n2 := tot_nonneg (words_bd (ipsOf a c))
  have n3 := tot_nonneg (words_bd P)
  have n4 := tot_nonneg (words_bd (flowNew P (ipsOf s0 d0) a b c d k))
  apply holds_same
  · rw [pseudo_tot _ _ _ _ _ (by omega), pseudo_tot _ _ _ _ _ (by omega), ez, eP, eQ]
    omega
  · rw [pseudo_tot _ _ _ _ _ (by omega)]; omega
  · rw [pseudo_tot _ _ _ _ _ (by omega)]; omega
theorem query_right {P : List UInt8} {id : Int} (h8 : 8 ≤ P.length) (hi : 0 ≤ id ∧ id ≤ 65535) : holds [queryOf P id] = holds [P] ∨ tot (words P) = 0 ∨ tot (words (queryOf P id)) = 0 := by
  have u := upd_mod (be16_bd P 2) (be16_bd P 4) hi
  have v := upd_bd (be16_bd P 2) (be16_bd P 4) hi
  have z4 : (lay P 4 id).length = P.length := lay_length (by omega)
  have e : tot (words (queryOf P id)) = tot (words P) - be16 P 4 + id - be16 P 2 + upd (be16 P 2) (be16 P 4) id := by
    unfold queryOf
    rw [lay_tot2 (by omega) (by omega) v, lay_tot2 (by omega) (by omega) hi, lay_other (by omega) (by omega)]
  by_cases h1 : tot (words P) = 0
  · exact Or.inr (Or.inl h1)
  by_cases h2 : tot (words (queryOf P id)) = 0
  · exact Or.inr (Or.inr h2)
  left
  apply holds_same
  · simp only [List.flatMap_cons, List.flatMap_nil, List.append_nil]
    rw [e]; omega
  · simpa using h2
  · simpa using h1
theorem load_right {h g : Hd} {P : List UInt8} {a b c d : Int} (hw : loadWhy h.p (S P) = 0) (hb : 0 ≤ b ∧ b ≤ 65535) (hd : 0 ≤ d ∧ d ≤ 65535) (gp : g.p = h.p) (gs : g.s = a) (gd : g.d = c) :
    rightL g (loadNew (loadSeen h (S P)) P (ipsOf h.s h.d) a b c d) = rightL h P ∨ tot (words P) = 0 ∨ tot (words (loadNew (loadSeen h (S P)) P (ipsOf h.s h.d) a b c d)) = 0 := by
  rcases load_cases hw with ⟨hp, ht⟩ | ⟨hp, ht⟩ | ⟨hp, h8, ht⟩
  · have hz := tcpIs_len ht
    have el : loadNew (loadSeen h (S P)) P (ipsOf h.s h.d) a b c d = flowNew P (ipsOf h.s h.d) a b c d 16 := by
      rw [seen_tcp hp hz]; unfold loadNew; rw [if_pos rfl]
    rw [el]
    have ez : (flowNew P (ipsOf h.s h.d) a b c d 16).length = P.length := flow_len (by omega) (by omega)
    left
    unfold rightL
    rw [gp, if_pos hp, if_pos hp, gs, gd]
    unfold tcpOk
    rw [S_size, S_size, L_S, L_S, flow_right (by omega) (by omega) (by omega) (by omega) hb hd (by omega), ez]
  · have hz := udpIs_len ht
    have el : loadNew (loadSeen h (S P)) P (ipsOf h.s h.d) a b c d = flowNew P (ipsOf h.s h.d) a b c d 6 := by
      rw [seen_udp hp hz]; unfold loadNew; rw [if_neg (by dsimp only; decide), if_pos rfl]
    rw [el]
    have ez : (flowNew P (ipsOf h.s h.d) a b c d 6).length = P.length := flow_len (by omega) (by omega)
    obtain ⟨m1, m2, m3⟩ := flow_mod (l := P) (ips := ipsOf h.s h.d) (a := a) (b := b) (c := c) (d := d) (k := 6) (by omega) (by omega) rfl
    have en := flow_new (l := P) (ips := ipsOf h.s h.d) (a := a) (b := b) (c := c) (d := d) (k := 6) (by omega) (by omega)
    have g1 : get16 P 6 = be16 P 6 := by show get16 P ((6 : Nat) : Int) = _; exact get16_nat (by omega)
    have g2 : get16 (flowNew P (ipsOf h.s h.d) a b c d 6) 6 = be16 (flowNew P (ipsOf h.s h.d) a b c d 6) 6 := by show get16 _ ((6 : Nat) : Int) = _; exact get16_nat (by omega)
    left
    unfold rightL
    rw [gp, if_neg (by omega), if_pos hp, if_neg (by omega), if_pos hp, gs, gd]
    unfold udpOk
    rw [S_size, S_size, L_S, L_S, g1, g2, ez]
    by_cases h0 : be16 P 6 = 0
    · have h1 : be16 (flowNew P (ipsOf h.s h.d) a b c d 6) 6 = 0 := by rw [en]; exact (m2 rfl).2 h0
      rw [h0, h1]; simp
    · have h1 : be16 (flowNew P (ipsOf h.s h.d) a b c d 6) 6 ≠ 0 := by rw [en]; exact fun q => h0 ((m2 rfl).1 q)
      have hr := flow_right (P := P) (a := a) (b := b) (c := c) (d := d) (s0 := h.s) (d0 := h.d) (p := 17) (k := 6) (by omega) (by omega) (by omega) (by omega) hb hd (fun _ => h0)
      rw [ez] at hr
      rw [hr, decide_eq_false h0, decide_eq_false h1]
  · have hn : ∀ h : Hd, ∀ l, h.p = 1 → rightL h l = (decide (8 ≤ l.length) && holds [l]) := by
      intro h l e; unfold rightL; rw [if_neg (by omega), if_neg (by omega)]
    rw [hn g _ (by rw [gp, hp]), hn h P hp]
    have ask : ∀ id, 0 ≤ id ∧ id ≤ 65535 → (decide (8 ≤ (queryOf P id).length) && holds [queryOf P id]) = (decide (8 ≤ P.length) && holds [P]) ∨ tot (words P) = 0 ∨ tot (words (queryOf P id)) = 0 := by
      intro id hi
      rw [query_len h8]
      rcases query_right h8 hi with q | q
      · left; rw [q]
      · right; exact q
    rw [seen_msg hp h8]
    by_cases ha : qAsk (msgOf (S P)) = true
    · rw [if_pos ha]
      have el : ∀ i, loadNew ⟨⟨1, h.s, be16 P 4, h.d, 0⟩, 2, 0, true, h.l⟩ P i a b c d = queryOf P b := by
        intro i; unfold loadNew; rw [if_neg (by dsimp only; decide), if_neg (by dsimp only; decide), if_neg (by dsimp only; decide), if_pos rfl]
      rw [el]
      exact ask b hb
    rw [if_neg ha]
    by_cases hq : qIs (msgOf (S P)) = true
    · rw [if_pos hq]
      have el : ∀ i, loadNew ⟨⟨1, h.s, 0, h.d, be16 P 4⟩, 2, 0, false, h.l⟩ P i a b c d = queryOf P d := by
        intro i; unfold loadNew; rw [if_neg (by dsimp only; decide), if_neg (by dsimp only; decide), if_neg (by dsimp only; decide), if_neg (by dsimp only; decide)]
      rw [el]
      exact ask d hd
    · rw [if_neg hq]
      have el : ∀ i, loadNew ⟨⟨1, h.s, 0, h.d, 0⟩, 3, 0, false, h.l⟩ P i a b c d = P := by
        intro i; unfold loadNew; rw [if_neg (by dsimp only; decide), if_neg (by dsimp only; decide), if_pos rfl]
      rw [el]
      left; rfl
/-- has what a packet carries a right sum; is it nothing but bytes 0 -/
def rightOf (s : ByteArray) : Bool := rightL (hdRes s) (L (ipRest s))
theorem rw_sums {s : ByteArray} {a b c d : Int} (h : seenWhy s = 0) (hl : 1 < (seenOf s).l) (ha : 0 ≤ a ∧ a ≤ 4294967295) (hb : 0 ≤ b ∧ b ≤ 65535) (hc : 0 ≤ c ∧ c ≤ 4294967295) (hd : 0 ≤ d ∧ d ≤ 65535) (t : ByteArray) (ht : rwOut s a b c d = t) :
    rwWhy s = 0 ∧ 20 ≤ t.size ∧ ipOwn (L t) ≤ t.size ∧ holds [(L t).take (ipOwn (L t)).toNat] = true ∧
    (rightOf t = rightOf s ∨ tot (words (L (ipRest s))) = 0 ∨ tot (words (L (ipRest t))) = 0) := by
  obtain ⟨H, P, R, rfl, w, hw, hx, h8⟩ := taken_whole h
  rw [h8] at hl
  have h20 := w.h20
  obtain ⟨G, Q, wG, eG, eQ, y1, o1, zG, zQ, G8, G9, hwG, xG, iG⟩ := out_whole R (a := a) (b := b) (c := c) (d := d) w hw (by omega) ha hb hc hd
  obtain ⟨_, w8, w9, w12, w16⟩ := head_whole (Q := P) w ha hc (by omega) rfl
  rw [o1] at ht
  subst ht
  obtain ⟨g1, g2, g3⟩ := whole_to [] wG
  rw [← app_nil] at g1 g2 g3
  obtain ⟨f1, f2, f3⟩ := whole_to R w
  have ho : ipOwn (L (S (G ++ Q))) = (G.length : Int) := by rw [L_S, own_app (by omega), wG.own]
  refine ⟨y1, by rw [S_size]; simp; omega, by rw [ho, S_size]; simp; omega, ?_, ?_⟩
  · rw [ho, L_S, Int.toNat_natCast, List.take_left]; exact wG.sum
  · unfold rightOf hdRes
    rw [if_pos g1, if_pos f1, g2, g3, f2, f3, L_S, L_S]
    have ei : ipsOf (hdL H).s (hdL H).d = (H.drop 12).take 8 := ips_self h20
    have r := load_right (h := hdL H) (g := hdL G) (P := P) (a := a) (b := b) (c := c) (d := d) hw hb hd (by rw [eG]; exact w9) (by rw [eG]; exact w12) (by rw [eG]; exact w16)
    rw [ei, ← eQ] at r
    exact r
end Go.Proofs.YtpidgmamollmgaaGreatDoor
end
