/- Several texts of this claim, one behind the other. -/
import Derived.Test.YtilfcikhipadpaaGreatDoorK31c

section
/- Packets, changed twice, changed back: plain. No walk. -/
set_option linter.unusedVariables false
namespace Go.Proofs.YtilfcikhipadpaaGreatDoor
open Go.RowKit

/-- a packet with 0 for its TTL, and its header's sum -/
def zeroH (l : List UInt8) : List UInt8 := ((l.set 8 0).set 10 0).set 11 0
def fix0 (n : Int) : Int := if n = 65535 then 0 else n
/-- so, and with 0 for a sum of 65535 -/
def plainL (l : List UInt8) (k : Nat) : List UInt8 := if 0 < k ∧ k + 1 < l.length ∧ at_ (zeroH l) k = 255 ∧ at_ (zeroH l) (k + 1) = 255 then ((zeroH l).set k 0).set (k + 1) 0 else zeroH l
def sumAtL (x : Seen) (own : Nat) : Nat := if x.t.p = 6 then own + 16 else if x.t.p = 17 then own + 6 else if x.k = 3 then 0 else own + 2
theorem zero_len (l : List UInt8) : (zeroH l).length = l.length := by simp [zeroH]
theorem zero_app {H P : List UInt8} (h : 20 ≤ H.length) : zeroH (H ++ P) = zeroH H ++ P := by
  unfold zeroH; rw [List.set_append_left _ _ (by omega), List.set_append_left _ _ (by simp; omega), List.set_append_left _ _ (by simp; omega)]
theorem plain_0 {H P : List UInt8} (h : 20 ≤ H.length) : plainL (H ++ P) 0 = zeroH H ++ P := by
  unfold plainL; rw [if_neg (by omega), zero_app h]
theorem plain_is {H P : List UInt8} {j k : Nat} (h : 20 ≤ H.length) (hj : j + 2 ≤ P.length) (hk : k = H.length + j) : plainL (H ++ P) k = zeroH H ++ lay P j (fix0 (be16 P j)) := by
  subst hk
  have hz := zero_len H
  have b0 := at_bd P j
  have b1 := at_bd P (j + 1)
  have eb : be16 P j = at_ P j * 256 + at_ P (j + 1) := rfl
  unfold plainL
  rw [zero_app h, at_right (by omega), at_right (by omega), hz, show H.length + j - H.length = j from by omega, show H.length + j + 1 - H.length = j + 1 from by omega]
  unfold fix0
  by_cases e : be16 P j = 65535
  · rw [if_pos (by simp; omega), if_pos e, List.set_append_right _ _ (by omega), List.set_append_right _ _ (by omega), hz, show H.length + j - H.length = j from by omega, show H.length + j + 1 - H.length = j + 1 from by omega, lay_zero hj]
  · rw [if_neg (by omega), if_neg e, lay_self hj]
theorem ips_self {H : List UInt8} (h : 20 ≤ H.length) : ipsOf (be32 H 12) (be32 H 16) = (H.drop 12).take 8 := by
  obtain ⟨b0, b1, b2, b3, b4, b5, b6, b7, b8, b9, b10, b11, b12, b13, b14, b15, b16, b17, b18, b19, o, rfl⟩ := twenty h
  have e12 : be32 (b0 :: b1 :: b2 :: b3 :: b4 :: b5 :: b6 :: b7 :: b8 :: b9 :: b10 :: b11 :: b12 :: b13 :: b14 :: b15 :: b16 :: b17 :: b18 :: b19 :: o) 12 = ((b12.toNat : Int) * 256 + (b13.toNat : Int)) * 65536 + ((b14.toNat : Int) * 256 + (b15.toNat : Int)) := rfl
  have e16 : be32 (b0 :: b1 :: b2 :: b3 :: b4 :: b5 :: b6 :: b7 :: b8 :: b9 :: b10 :: b11 :: b12 :: b13 :: b14 :: b15 :: b16 :: b17 :: b18 :: b19 :: o) 16 = ((b16.toNat : Int) * 256 + (b17.toNat : Int)) * 65536 + ((b18.toNat : Int) * 256 + (b19.toNat : Int)) := rfl
  unfold ipsOf
  rw [e12, e16, put32_be, put32_be]
  rfl
theorem ips_new {H : List UInt8} (a c : Int) (h : 20 ≤ H.length) : ((headNew H a c).drop 12).take 8 = ipsOf a c := by
  rw [head_is a c h, List.drop_left' (by simp [lifeOf, put16_length]; omega), ← List.append_assoc]
  exact List.take_left' rfl
theorem head_at {H : List UInt8} (a c : Int) (h : 20 ≤ H.length) {i : Nat} (hi : i < 8 ∨ i = 9 ∨ 20 ≤ i) : at_ (headNew H a c) i = at_ H i := by
  obtain ⟨b0, b1, b2, b3, b4, b5, b6, b7, b8, b9, b10, b11, b12, b13, b14, b15, b16, b17, b18, b19, o, rfl⟩ := twenty h
  rcases hi with hi | rfl | hi
  · have : i = 0 ∨ i = 1 ∨ i = 2 ∨ i = 3 ∨ i = 4 ∨ i = 5 ∨ i = 6 ∨ i = 7 := by omega
    rcases this with rfl | rfl | rfl | rfl | rfl | rfl | rfl | rfl <;> rfl
  · rfl
  · obtain ⟨j, rfl⟩ : ∃ j, i = 20 + j := ⟨i - 20, by omega⟩
    rw [← at_drop, ← at_drop]
    rfl

section
variable {P ips : List UInt8} {a b c d a2 b2 c2 d2 : Int} {k : Nat}
end
/-- two texts that are alike but for what a sum of 0 or 65535 is -/
def Like (x : Seen) (n : Nat) (P Q : List UInt8) : Prop :=
  P.length = n ∧ Q.length = n ∧ ((∀ own, sumAtL x own = 0) ∧ P = Q ∨ ∃ j X m m', (∀ own, sumAtL x own = own + j) ∧ X.length = n ∧ j + 2 ≤ n ∧ P = lay X j m ∧ Q = lay X j m' ∧ (0 ≤ m ∧ m ≤ 65535) ∧ (0 ≤ m' ∧ m' ≤ 65535) ∧ fix0 m = fix0 m')
theorem Like.plain {x : Seen} {n : Nat} {P Q H G : List UInt8} (h : Like x n P Q) (h20 : 20 ≤ H.length) (hz : G.length = H.length) (he : zeroH H = zeroH G) : plainL (H ++ P) (sumAtL x H.length) = plainL (G ++ Q) (sumAtL x G.length) := by
  obtain ⟨z1, z2, ⟨h0, rfl⟩ | ⟨j, X, m, m', hs, hx, hj, rfl, rfl, hm, hm', e⟩⟩ := h
  · rw [h0, h0, plain_0 h20, plain_0 (by omega), he]
  · rw [plain_is (j := j) h20 (by omega) (hs _), plain_is (j := j) (by omega) (by omega) (hs _), he, lay_at (by omega) hm, lay_at (by omega) hm', e, lay_lay (by omega), lay_lay (by omega)]
end Go.Proofs.YtilfcikhipadpaaGreatDoor
end

section
/- Packets, changed: what the statements say of them, plain. No walk. -/
set_option linter.unusedVariables false
namespace Go.Proofs.YtilfcikhipadpaaGreatDoor
open Go.RowKit

theorem load_ends (h : Hd) (l : ByteArray) : (loadSeen h l).t.a = h.s ∧ (loadSeen h l).t.c = h.d ∧ (loadSeen h l).l = h.l := by
  unfold loadSeen
  split
  · exact ⟨rfl, rfl, rfl⟩
  split
  · exact ⟨rfl, rfl, rfl⟩
  split
  · exact ⟨rfl, rfl, rfl⟩
  split <;> exact ⟨rfl, rfl, rfl⟩
theorem seenTo_sum (x : Seen) (a b c d : Int) (own : Nat) : sumAtL (seenTo x a b c d) own = sumAtL x own := by
  unfold seenTo
  split
  · rfl
  split
  · rfl
  split <;> rfl
theorem taken_whole {s : ByteArray} (h : seenWhy s = 0) : ∃ H P R, s = S (H ++ P ++ R) ∧ Whole H P ∧ loadWhy (at_ H 9) (S P) = 0 ∧ seenOf s = loadSeen (hdL H) (S P) ∧ (seenOf s).l = at_ H 8 := by
  have hip : ipWhy s = 0 := by
    unfold seenWhy at h
    by_cases hi : ipWhy s = 0
    · exact hi
    · rw [if_neg hi] at h; exact h
  obtain ⟨H, P, R, rfl, w⟩ := whole_of hip
  obtain ⟨e1, e2, _⟩ := seen_whole R w
  rw [e1] at h
  exact ⟨H, P, R, rfl, w, h, e2 h, by rw [e2 h]; exact (load_ends _ _).2.2⟩
/-- what a whole packet is, changed -/
theorem out_whole {H P : List UInt8} (R : List UInt8) {a b c d : Int} (w : Whole H P) (hw : loadWhy (at_ H 9) (S P) = 0) (h8 : 2 ≤ at_ H 8) (ha : 0 ≤ a ∧ a ≤ 4294967295) (hb : 0 ≤ b ∧ b ≤ 65535) (hc : 0 ≤ c ∧ c ≤ 4294967295) (hd : 0 ≤ d ∧ d ≤ 65535) :
    ∃ G Q, Whole G Q ∧ G = headNew H a c ∧ Q = loadNew (loadSeen (hdL H) (S P)) P ((H.drop 12).take 8) a b c d ∧ rwWhy (S (H ++ P ++ R)) = 0 ∧ rwOut (S (H ++ P ++ R)) a b c d = S (G ++ Q) ∧ G.length = H.length ∧ Q.length = P.length ∧ at_ G 8 = at_ H 8 - 1 ∧ at_ G 9 = at_ H 9 ∧
      loadWhy (at_ G 9) (S Q) = 0 ∧ loadSeen (hdL G) (S Q) = seenTo (loadSeen (hdL H) (S P)) a b c d ∧ (G.drop 12).take 8 = ipsOf a c := by
  obtain ⟨c1, c2, c3, c4, c5, c6⟩ := change w hw (by omega) ha hb hc hd
  obtain ⟨e1, e2, e3⟩ := seen_whole R w
  have hy : rwWhy (S (H ++ P ++ R)) = 0 := by
    unfold rwWhy
    rw [e1, if_neg (by omega), e2 hw, if_neg]
    rw [(load_ends _ _).2.2]
    show ¬ at_ H 8 < 2
    omega
  refine ⟨_, _, c1, rfl, rfl, hy, ?_, headNew_length a c w.h20, c2, c4, c3, by rw [c3]; exact c5, c6, ips_new a c w.h20⟩
  unfold rwOut
  rw [if_pos hy, e3, e2 hw]
theorem app_nil (l : List UInt8) : S l = S (l ++ []) := by rw [List.append_nil]

/-- the places in which a packet that was changed may be another one -/
def okAt (x : Seen) (own k i : Nat) : Prop := (8 ≤ i ∧ i < 20 ∧ i ≠ 9) ∨ (x.t.p ≠ 1 ∧ own ≤ i ∧ i < own + 4) ∨ (x.t.p = 1 ∧ 0 < k ∧ own + 4 ≤ i ∧ i < own + 6) ∨ (k ≠ 0 ∧ (i = k ∨ i = k + 1))
theorem load_at {h : Hd} {P ips : List UInt8} {a b c d : Int} (hw : loadWhy h.p (S P) = 0) (own j : Nat) :
    at_ (loadNew (loadSeen h (S P)) P ips a b c d) j = at_ P j ∨ okAt (loadSeen h (S P)) own (sumAtL (loadSeen h (S P)) own) (own + j) := by
  rcases load_cases hw with ⟨hp, ht⟩ | ⟨hp, ht⟩ | ⟨hp, h8, ht⟩
  · have hz := tcpIs_len ht
    rw [seen_tcp hp hz]
    unfold loadNew sumAtL okAt
    rw [if_pos rfl, if_pos rfl]
    simp only
    by_cases hj : 4 ≤ j ∧ (j < 16 ∨ 18 ≤ j)
    · left; exact flow_at (by omega) (by omega) hj.1 hj.2
    · right; omega
  · have hz := udpIs_len ht
    rw [seen_udp hp hz]
    unfold loadNew sumAtL okAt
    rw [if_neg (by dsimp only; decide), if_pos rfl, if_neg (by dsimp only; decide), if_pos rfl]
    simp only
    by_cases hj : 4 ≤ j ∧ (j < 6 ∨ 8 ≤ j)
    · left; exact flow_at (by omega) (by omega) hj.1 hj.2
    · right; omega
  · have ask : ∀ id, at_ (queryOf P id) j = at_ P j ∨ (2 ≤ j ∧ j < 6) := by
      intro id
      by_cases hj : j < 2 ∨ 6 ≤ j
      · left; exact query_at h8 hj
      · right; omega
    rw [seen_msg hp h8]
    by_cases ha : qAsk (msgOf (S P)) = true
    · rw [if_pos ha]
      unfold loadNew sumAtL okAt
      rw [if_neg (by dsimp only; decide), if_neg (by dsimp only; decide), if_neg (by dsimp only; decide), if_pos rfl, if_neg (by dsimp only; decide), if_neg (by dsimp only; decide), if_neg (by dsimp only; decide)]
      rcases ask b with q | q
      · exact Or.inl q
      · by_cases h4 : j < 4
        · exact Or.inr (Or.inr (Or.inr (Or.inr ⟨by omega, by omega⟩)))
        · exact Or.inr (Or.inr (Or.inr (Or.inl ⟨rfl, by omega, by omega, by omega⟩)))
    rw [if_neg ha]
    by_cases hq : qIs (msgOf (S P)) = true
    · rw [if_pos hq]
      unfold loadNew sumAtL okAt
      rw [if_neg (by dsimp only; decide), if_neg (by dsimp only; decide), if_neg (by dsimp only; decide), if_neg (by dsimp only; decide), if_neg (by dsimp only; decide), if_neg (by dsimp only; decide), if_neg (by dsimp only; decide)]
      rcases ask d with q | q
      · exact Or.inl q
      · by_cases h4 : j < 4
        · exact Or.inr (Or.inr (Or.inr (Or.inr ⟨by omega, by omega⟩)))
        · exact Or.inr (Or.inr (Or.inr (Or.inl ⟨rfl, by omega, by omega, by omega⟩)))
    · rw [if_neg hq]
      left
      unfold loadNew
      rw [if_neg (by dsimp only; decide), if_neg (by dsimp only; decide), if_pos rfl]
theorem rw_seen {s : ByteArray} {a b c d : Int} (h : seenWhy s = 0) (hl : 1 < (seenOf s).l) (ha : 0 ≤ a ∧ a ≤ 4294967295) (hb : 0 ≤ b ∧ b ≤ 65535) (hc : 0 ≤ c ∧ c ≤ 4294967295) (hd : 0 ≤ d ∧ d ≤ 65535) (t : ByteArray) (ht : rwOut s a b c d = t) :
    rwWhy s = 0 ∧ seenWhy t = 0 ∧ seenOf t = seenTo (seenOf s) a b c d ∧ 20 ≤ t.size ∧ t.size ≤ s.size ∧ (∀ i, i < t.size → at_ (L s) i = at_ (L t) i ∨ okAt (seenOf s) (ipOwn (L t)).toNat (sumAtL (seenOf t) (ipOwn (L t)).toNat) i) := by
  obtain ⟨H, P, R, rfl, w, hw, hx, h8⟩ := taken_whole h
  rw [h8] at hl
  have h20 := w.h20
  obtain ⟨G, Q, wG, eG, eQ, y1, o1, zG, zQ, G8, G9, hwG, xG, iG⟩ := out_whole R (a := a) (b := b) (c := c) (d := d) w hw (by omega) ha hb hc hd
  rw [o1] at ht
  subst ht
  obtain ⟨e1, e2, e3⟩ := seen_whole [] wG
  rw [← app_nil] at e1 e2
  have hs : seenOf (S (G ++ Q)) = seenTo (seenOf (S (H ++ P ++ R))) a b c d := by rw [e2 hwG, xG, hx]
  have ho : (ipOwn (L (S (G ++ Q)))).toNat = H.length := by rw [L_S, own_app (by omega), wG.own, Int.toNat_natCast, zG]
  refine ⟨y1, by rw [e1]; exact hwG, hs, by rw [S_size]; simp; omega, by rw [S_size, S_size]; simp; omega, ?_⟩
  intro i hi
  rw [S_size] at hi
  simp at hi
  rw [hs, seenTo_sum, ho, hx, L_S, L_S, List.append_assoc]
  by_cases hH : i < H.length
  · rw [at_left hH, at_left (by omega)]
    by_cases hk : i < 8 ∨ i = 9 ∨ 20 ≤ i
    · left; rw [eG, head_at a c h20 hk]
    · right; left; omega
  · obtain ⟨j, rfl⟩ : ∃ j, i = H.length + j := ⟨i - H.length, by omega⟩
    rw [at_right (a := H) (by omega), at_right (a := G) (by omega), at_left (a := P) (by omega), zG, show H.length + j - H.length = j from by omega, eQ]
    rcases load_at (a := a) (b := b) (c := c) (d := d) (ips := (H.drop 12).take 8) (h := hdL H) hw H.length j with q | q
    · left; exact q.symm
    · right; exact q
end Go.Proofs.YtilfcikhipadpaaGreatDoor
end

section
/- Errors, and what they are about: plain laws of their sizes. No walk. -/
set_option linter.unusedVariables false
set_option linter.unusedSimpArgs false
namespace Go.Proofs.YtilfcikhipadpaaGreatDoor
open Go.RowKit

theorem seen_err {h : Hd} {l : ByteArray} (hw : loadWhy h.p l = 0) (hk : (loadSeen h l).k = 3) : h.p = 1 ∧ 8 ≤ l.size ∧ qErr (msgOf l) = true ∧ qIs (msgOf l) = false := by
  have p6 : h.p ≠ 6 := fun e => by unfold loadSeen at hk; rw [if_pos e] at hk; simp only at hk; split at hk <;> omega
  have p17 : h.p ≠ 17 := fun e => by unfold loadSeen at hk; rw [if_neg p6, if_pos e] at hk; simp only at hk; omega
  unfold loadWhy at hw
  rw [if_neg p6, if_neg p17] at hw
  by_cases p1 : h.p = 1
  · rw [if_pos p1] at hw
    by_cases h8 : l.size < 8
    · rw [if_pos h8] at hw; omega
    rw [if_neg h8] at hw
    unfold loadSeen at hk
    rw [if_neg p6, if_neg p17] at hk
    have hq : qIs (msgOf l) = false := by
      cases hq : qIs (msgOf l) with
      | false => rfl
      | true =>
        rw [hq] at hk
        split at hk
        · simp only at hk; omega
        · simp only [if_true] at hk; omega
    refine ⟨p1, by omega, ?_, hq⟩
    by_cases h : qIs (msgOf l) = true ∨ qErr (msgOf l) = true
    · rcases h with h | h
      · rw [hq] at h; cases h
      · exact h
    · rw [if_neg h] at hw; omega
  · rw [if_neg p1] at hw; omega
/-- an error, taken apart -/
theorem err_whole {s : ByteArray} (h : seenWhy s = 0) (hk : (seenOf s).k = 3) : ∃ H P R, s = S (H ++ P ++ R) ∧ Whole H P ∧ loadWhy (at_ H 9) (S P) = 0 ∧ seenOf s = loadSeen (hdL H) (S P) ∧ (seenOf s).l = at_ H 8 ∧ ipRest s = S P ∧ at_ H 9 = 1 ∧ 8 ≤ P.length ∧ qErr (msgOf (S P)) = true ∧ qIs (msgOf (S P)) = false := by
  obtain ⟨H, P, R, rfl, w, h1, h2, h3⟩ := taken_whole h
  obtain ⟨_, _, e3⟩ := whole_to R w
  rw [h2] at hk
  obtain ⟨q1, q2, q3, q4⟩ := seen_err (h := hdL H) (l := S P) h1 hk
  exact ⟨H, P, R, rfl, w, h1, h2, h3, e3, q1, by rwa [S_size] at q2, q3, q4⟩
theorem ems_seen {s : ByteArray} (h : emsWhy s = 0) : seenWhy s = 0 ∧ (seenOf s).k = 3 ∧ emWhy (L (emData s)) = 0 := by
  unfold emsWhy at h
  by_cases h1 : seenWhy s = 0
  · rw [if_neg (by omega)] at h
    by_cases h2 : (seenOf s).k = 3
    · rw [if_neg (by omega)] at h
      exact ⟨h1, h2, h⟩
    · rw [if_pos h2] at h; omega
  · rw [if_pos h1] at h; omega
theorem emData_of {s : ByteArray} {P : List UInt8} (h : ipRest s = S P) : emData s = S (P.drop 8) ∧ (msgOf (ipRest s)).n = be16 P 2 := by
  unfold emData
  rw [h]
  refine ⟨?_, rfl⟩
  show (S P).extract 8 (S P).size = _
  exact eq_S (by rw [L_from, L_S])
theorem emWhy_parts {d : List UInt8} (h : emWhy d = 0) : 20 ≤ emAt d ∧ emAt d ≤ 60 ∧ emAt d + 8 ≤ d.length ∧ at_ d 0 / 16 = 4 ∧ be16 d 6 % 8192 = 0 ∧ (at_ d 9 = 6 ∨ at_ d 9 = 17 ∨ (at_ d 9 = 1 ∧ qIs (emMsg d) = true)) := by
  have hb := at_bd d 0
  have he : ((emAt d : Nat) : Int) = emEnd d := by unfold emAt emEnd; omega
  have he2 : emEnd d ≤ 60 := by unfold emEnd; omega
  unfold emWhy at h
  by_cases h1 : (d.length : Int) < 20 ∨ at_ d 0 / 16 ≠ 4
  · rw [if_pos h1] at h; omega
  rw [if_neg h1] at h
  by_cases h2 : emEnd d < 20 ∨ (d.length : Int) - 8 < emEnd d ∨ be16 d 6 % 8192 ≠ 0
  · rw [if_pos h2] at h; omega
  rw [if_neg h2] at h
  refine ⟨by omega, by omega, by omega, by omega, by omega, ?_⟩
  by_cases h3 : at_ d 9 = 6 ∨ at_ d 9 = 17
  · omega
  rw [if_neg h3] at h
  by_cases h4 : at_ d 9 = 1
  · rw [if_neg (by omega)] at h
    cases hq : qIs (emMsg d) with
    | true => exact Or.inr (Or.inr ⟨h4, rfl⟩)
    | false => rw [hq, if_neg (by decide)] at h; omega
  · rw [if_pos h4] at h; omega
theorem emTup_p (d : List UInt8) : (emTup d).p = at_ d 9 := by unfold emTup; split; rfl; split <;> rfl
theorem emNew_len {d : List UInt8} (h : emWhy d = 0) (a b c dd : Int) : (emNew d a b c dd).length = d.length := by
  obtain ⟨h1, h2, h3, _⟩ := emWhy_parts h
  exact emCh_len h3 (by omega)
/-- how long the changed error is -/
theorem tr_size0 {s : ByteArray} {a b c d : Int} (e1 : seenWhy s = 0) (e2 : (seenOf s).k = 3) (hrw : rwWhy s = 0) (ha : 0 ≤ a ∧ a ≤ 4294967295) (hb : 0 ≤ b ∧ b ≤ 65535) (hc : 0 ≤ c ∧ c ≤ 4294967295) (hd : 0 ≤ d ∧ d ≤ 65535) :
    ∃ k : Nat, ((k : Nat) : Int) = at_ (L s) 0 % 16 * 4 ∧ 20 ≤ k ∧ k ≤ 60 ∧ (rwOut s a b c d).size = k + 8 + (emData s).size ∧ (rwOut s a b c d).size ≤ 2048 ∧ 1 ≤ s.size := by
  obtain ⟨H, P, R, hs, w, h1, h2, h3, h4, h5, h6, h7, h8⟩ := err_whole e1 e2
  have hl : 2 ≤ at_ H 8 := by
    unfold rwWhy at hrw
    rw [if_neg (by omega)] at hrw
    by_cases hz : (seenOf s).l < 2
    · rw [if_pos hz] at hrw; omega
    · omega
  subst hs
  obtain ⟨G, Q, _, _, _, _, ho, hg, hq, _⟩ := out_whole R w h1 hl ha hb hc hd
  have h60 := w.h60
  have h20 := w.h20
  have hbig := w.big
  have hown := w.own
  refine ⟨H.length, ?_, h20, h60, ?_, ?_, ?_⟩
  · rw [← hown, L_S, List.append_assoc]
    unfold ipOwn
    rw [at_left (by omega)]
  · rw [ho, S_size, (emData_of h4).1, S_size, List.length_append, List.length_drop, hg, hq]; omega
  · rw [ho, S_size, List.length_append, hg, hq]; exact hbig
  · rw [S_size]; simp; omega
end Go.Proofs.YtilfcikhipadpaaGreatDoor
end

section
/- What an error is about, the program's and the document's. -/
set_option linter.unusedVariables false
set_option linter.unusedSimpArgs false
namespace Go.Proofs.YtilfcikhipadpaaGreatDoor
open Go.RowKit Go.Lib Rx
/-- the tuple of the packet that an error is about -/
def inTup (s : ByteArray) : Tup := if emsWhy s = 0 then emTup (L (emData s)) else ⟨0, 0, 0, 0, 0⟩
@[reducible] def tuT (t : Tup) (r : Int) : Value := .tuple #[.agg #[.int .u8 t.p, .int .u32 t.a, .int .u16 t.b, .int .u32 t.c, .int .u16 t.d], .int .i64 r]
/-- of some bytes -/
def inD (d : List UInt8) : Value := tuT (if emWhy d = 0 then emTup d else ⟨0, 0, 0, 0, 0⟩) (emWhy d)
theorem get16_part {d : ByteArray} {n k : Nat} (h : n + k + 2 ≤ d.size) : get16 (L (d.extract n d.size)) (k : Nat) = be16 (L d) (n + k) := by
  have : (L d).length = d.size := L_length d
  rw [get16_nat (by rw [L_from, List.length_drop]; omega), L_from, be16_drop]
/-- the chain of what is asked of some bytes, as both ask -/
theorem emq_is (d : ByteArray) : let E := emEnd (L d); let q := qIs (emMsg (L d)); let a := qAsk (emMsg (L d));
    inD (L d) = (bif decide ((d.size : Int) < 20) then tuT ⟨0, 0, 0, 0, 0⟩ 15 else bif at_ (L d) 0 / 16 != 4 then tuT ⟨0, 0, 0, 0, 0⟩ 15 else bif decide (E < 20) then tuT ⟨0, 0, 0, 0, 0⟩ 15 else bif decide ((d.size : Int) - 8 < E) then tuT ⟨0, 0, 0, 0, 0⟩ 15
      else bif get16 (L d) 6 % 8192 != 0 then tuT ⟨0, 0, 0, 0, 0⟩ 15 else bif at_ (L d) 9 == 6 then tuT ⟨at_ (L d) 9, get32 (L d) 12, be16 (L d) (emAt (L d)), get32 (L d) 16, be16 (L d) (emAt (L d) + 2)⟩ 0
      else bif at_ (L d) 9 == 17 then tuT ⟨at_ (L d) 9, get32 (L d) 12, be16 (L d) (emAt (L d)), get32 (L d) 16, be16 (L d) (emAt (L d) + 2)⟩ 0
      else bif at_ (L d) 9 == 1 then (bif q then (bif a then tuT ⟨at_ (L d) 9, get32 (L d) 12, be16 (L d) (emAt (L d) + 4), get32 (L d) 16, 0⟩ 0 else tuT ⟨at_ (L d) 9, get32 (L d) 12, 0, get32 (L d) 16, be16 (L d) (emAt (L d) + 4)⟩ 0) else tuT ⟨0, 0, 0, 0, 0⟩ 15)
      else tuT ⟨0, 0, 0, 0, 0⟩ 6) := by
  intro E q a
  have hl : (L d).length = d.size := L_length d
  unfold inD emWhy emTup
  by_cases h1 : (d.size : Int) < 20
  · simp [hl, h1]
  have g12 : get32 (L d) 12 = be32 (L d) 12 := get32_nat (k := 12) (by omega)
  have g16 : get32 (L d) 16 = be32 (L d) 16 := get32_nat (k := 16) (by omega)
  have g6 : get16 (L d) 6 = be16 (L d) 6 := get16_nat (k := 6) (by omega)
  rw [g12, g16, g6]
  by_cases h2 : at_ (L d) 0 / 16 = 4
  · by_cases h3 : emEnd (L d) < 20
    · simp [hl, h1, h2, E, h3]
    by_cases h4 : (d.size : Int) - 8 < emEnd (L d)
    · simp [hl, h1, h2, E, h3, h4]
    by_cases h5 : be16 (L d) 6 % 8192 = 0
    · by_cases h6 : at_ (L d) 9 = 6
      · simp [hl, h1, h2, E, h3, h4, h5, h6]
      by_cases h7 : at_ (L d) 9 = 17
      · simp [hl, h1, h2, E, h3, h4, h5, h7]
      have b6 : (at_ (L d) 9 == 6) = false := by simpa using h6
      have b7 : (at_ (L d) 9 == 17) = false := by simpa using h7
      by_cases h8 : at_ (L d) 9 = 1
      · cases hq : qIs (emMsg (L d)) <;> cases ha : qAsk (emMsg (L d)) <;> simp [hl, h1, h2, E, h3, h4, h5, h8, q, a, hq, ha]
      · have b8 : (at_ (L d) 9 == 1) = false := by simpa using h8
        simp [hl, h1, h2, E, h3, h4, h5, h6, h7, h8, b6, b7, b8]
    · have b5 : (be16 (L d) 6 % 8192 != 0) = true := by simpa using h5
      simp [hl, h1, h2, E, h3, h4, h5, b5]
  · have b2 : (at_ (L d) 0 / 16 != 4) = true := by simpa using h2
    simp [hl, h1, h2, b2]
/-- what both tell, by what is seen -/
def inR (xr x5 : Int) (d : List UInt8) : Value := bif xr != 0 then tuT ⟨0, 0, 0, 0, 0⟩ xr else bif x5 != 3 then tuT ⟨0, 0, 0, 0, 0⟩ 15 else inD d
theorem em_ports {d : ByteArray} (h1 : 20 ≤ emEnd (L d)) (h2 : emEnd (L d) ≤ (d.size : Int) - 8) : get16 (L d) (emEnd (L d)) = be16 (L d) (emAt (L d)) ∧ get16 (L d) (emEnd (L d) + 2) = be16 (L d) (emAt (L d) + 2) ∧ get16 (L d) (emEnd (L d) + 4) = be16 (L d) (emAt (L d) + 4) ∧
    get16 (L (d.extract (emEnd (L d)).toNat d.size)) 0 = be16 (L d) (emAt (L d)) ∧ get16 (L (d.extract (emEnd (L d)).toNat d.size)) 2 = be16 (L d) (emAt (L d) + 2) ∧ get16 (L (d.extract (emEnd (L d)).toNat d.size)) 4 = be16 (L d) (emAt (L d) + 4) := by
  have hl : (L d).length = d.size := L_length d
  have e : emEnd (L d) = ((emAt (L d) : Nat) : Int) := by unfold emAt; omega
  have hN : emAt (L d) + 8 ≤ d.size := by omega
  have hE : (emEnd (L d)).toNat = emAt (L d) := rfl
  refine ⟨?_, ?_, ?_, ?_, ?_, ?_⟩
  · rw [e]; exact get16_nat (by omega)
  · rw [show emEnd (L d) + 2 = ((emAt (L d) + 2 : Nat) : Int) by omega]; exact get16_nat (by omega)
  · rw [show emEnd (L d) + 4 = ((emAt (L d) + 4 : Nat) : Int) by omega]; exact get16_nat (by omega)
  · rw [hE]; exact get16_part (k := 0) (by omega)
  · rw [hE]; exact get16_part (k := 2) (by omega)
  · rw [hE]; exact get16_part (k := 4) (by omega)
theorem ei_v (x0 x1 x2 x3 x4 x5 x6 x8 xr a0 a1 a3 a4 a5 a6 r m0 m1 m2 : Int) (x7 a2 mk : Bool) (d : ByteArray) : ei_1_v x0 x1 x2 x3 x4 x5 x6 x8 xr a0 a1 a3 a4 a5 a6 r m0 m1 m2 x7 a2 mk (qAsk (emMsg (L d))) (qIs (emMsg (L d))) d = inR xr x5 (L d) := by
  unfold ei_1_v inR
  by_cases hr : xr = 0
  · by_cases h5 : x5 = 3
    · rw [emq_is]
      by_cases h1 : (d.size : Int) < 20
      · simp [hr, h5, h1]
      by_cases h2 : at_ (L d) 0 / 16 = 4
      · by_cases h3 : emEnd (L d) < 20
        · simp [hr, h5, h1, h2, h3]
        by_cases h4 : (d.size : Int) - 8 < emEnd (L d)
        · simp [hr, h5, h1, h2, h3, h4]
        obtain ⟨p0, p2, p4, _⟩ := em_ports (d := d) (by omega) (by omega)
        rw [p0, p2, p4, hr, h5]
      · have b2 : (at_ (L d) 0 / 16 != 4) = true := by simpa using h2
        simp [hr, h5, h1, h2, b2]
    · have b5 : (x5 != 3) = true := by simpa using h5
      simp [hr, h5, b5]
  · have br : (xr != 0) = true := by simpa using hr
    simp [br]
theorem msg_is {s : ByteArray} (h : seenWhy s = 0) (hk : (seenOf s).k = 3) : 8 ≤ (ipRest s).size := by
  have hw : ipWhy s = 0 := Decidable.byContradiction fun hn => hn (by unfold seenWhy at h; rw [if_neg hn] at h; exact h)
  have h1 : loadWhy (hdOf s).p (ipRest s) = 0 := by unfold seenWhy at h; rw [if_pos hw] at h; exact h
  have h2 : seenOf s = loadSeen (hdOf s) (ipRest s) := by unfold seenOf; rw [if_pos h]
  rw [h2] at hk
  exact (seen_err h1 hk).2.1
theorem inR_is (s : ByteArray) (m : Msg) (hm : 8 ≤ (ipRest s).size → m = msgOf (ipRest s)) : inR (seenWhy s) (seenOf s).k (L m.d) = tuT (inTup s) (emsWhy s) := by
  unfold inR inTup emsWhy
  by_cases h : seenWhy s = 0
  · by_cases hk : (seenOf s).k = 3
    · rw [hm (msg_is h hk)]
      simp only [h, hk, ne_eq, not_true, if_false, bne_self_eq_false, cond]
      rfl
    · have b : ((seenOf s).k != 3) = true := by simpa using hk
      simp [h, hk, b]
  · have b : (seenWhy s != 0) = true := by simpa using h
    simp [h, b]
theorem rest_sz {s : ByteArray} (hs : s.size ≤ 140737488351232) : (ipRest s).size ≤ 140737488351232 := by
  unfold ipRest; split
  · rw [ByteArray.size_extract]; omega
  · decide
theorem emMsg_at (d : ByteArray) : emMsg (L d) = ⟨at_ (L d) (emEnd (L d)).toNat, at_ (L d) (emEnd (L d) + 1).toNat, 0, { data := #[] }, { data := #[] }⟩ := by
  unfold emMsg emAt
  have : 0 ≤ emEnd (L d) := by have := at_bd (L d) 0; unfold emEnd; omega
  rw [show (emEnd (L d) + 1).toNat = (emEnd (L d)).toNat + 1 by omega]
theorem emMsg_ok (d : ByteArray) : (emMsg (L d)).Ok := ⟨at_bd _ _, at_bd _ _, (by decide : (0 : Int) ≤ 0 ∧ (0 : Int) ≤ 65535), (by decide : ({ data := #[] } : ByteArray).size ≤ 140737488351232), (by decide : ({ data := #[] } : ByteArray).size ≤ 140737488351232)⟩
theorem e_Inner (w : World) (s : ByteArray) (K0 : Kinds w) (hs : s.size ≤ 140737488351232) : Calls Tryz.prog 31 #[.string s] w (Ret (tuT (inTup s) (emsWhy s)) w) := by
  obtain ⟨m, hm, mo, c4, _⟩ := msg_any (ipRest s) (rest_sz hs)
  have cq := fun W (b : Below w.heap.size w W) => i_Query (emMsg (L m.d)) W (emMsg_ok m.d) (K0.below b)
  rw [emMsg_at] at cq
  have k := ei_1 s w _ _ _ _ _ _ _ _ _ _ _ _ _ _ _ _ _ _ _ _ _ _ _ _ _ _ _ _ mo.2.2.2.2 (fun W b => tu_Of s W (K0.below b) hs) (fun W _ => ip_Parse s W hs) (fun W _ => c4 W) cq
  rw [← emMsg_at, ei_v, inR_is s m hm] at k
  exact k
end Go.Proofs.YtilfcikhipadpaaGreatDoor
end
