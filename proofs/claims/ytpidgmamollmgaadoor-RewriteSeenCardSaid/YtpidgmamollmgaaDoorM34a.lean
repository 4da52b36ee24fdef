/- Several texts of this claim, one behind the other. -/
import Derived.Test.YtpidgmamollmgaaDoorM8
import Derived.Laws.IdiomStrings
import Derived.BigRegion
import Derived.Test.YtpidgmamollmgaaDoorM32

section
/- Bytes of a text in a row of the call's own: what a store does, how the row is turned into a text again. -/
set_option linter.unusedVariables false
namespace Go.Proofs.YtpidgmamollmgaaDoor
open Go.RowKit

/-- block b is a row of bytes, the first of them those of l, none of these frozen -/
def Bytes (w : World) (b : Nat) (l : List UInt8) : Prop :=
  ∃ cs : Array Value, ∃ lo hi : Nat, w.heap[b]? = some (.cells cs 5 (lo, hi)) ∧ l.length ≤ lo ∧ ∀ j, j < l.length → cs[j]? = some (.int .u8 (at_ l j))

theorem Bytes.cell {w : World} {b : Nat} {l : List UInt8} (h : Bytes w b l) {j : Nat} (hj : j < l.length) : w.cell? ⟨b, j, none⟩ = some (.int .u8 (at_ l j)) := by
  obtain ⟨cs, lo, hi, hb, hl, hc⟩ := h
  rw [Lib.cell_of_heap hb]; exact hc j hj
theorem Bytes.frozen {w : World} {b : Nat} {l : List UInt8} (h : Bytes w b l) {j : Nat} (hj : j < l.length) : w.frozen? ⟨b, j, none⟩ = false := by
  obtain ⟨cs, lo, hi, hb, hl, hc⟩ := h
  simp [World.frozen?, hb]; omega
theorem Bytes.lt {w : World} {b : Nat} {l : List UInt8} (h : Bytes w b l) : b < w.heap.size := by
  obtain ⟨cs, lo, hi, hb, _⟩ := h
  exact (Array.getElem?_eq_some_iff.1 hb).1
theorem Bytes.set_ {w : World} {b : Nat} {l : List UInt8} (h : Bytes w b l) {k : Nat} {x : UInt8} (hk : k < l.length) : Bytes (w.setCell ⟨b, k, none⟩ (.int .u8 (x.toNat : Int))) b (l.set k x) := by
  obtain ⟨cs, lo, hi, hb, hl, hc⟩ := h
  refine ⟨cs.setIfInBounds k (.int .u8 (x.toNat : Int)), lo, hi, ?_, by simpa using hl, fun j hj => ?_⟩
  · simp [World.setCell, Array.getElem?_modify, hb]
  · have hj' : j < l.length := by simpa using hj
    have hcj := hc j hj'
    have hkz : k < cs.size := by have := hc k hk; exact (Array.getElem?_eq_some_iff.1 this).1
    by_cases e : k = j
    · subst e
      rw [Array.getElem?_setIfInBounds_self_of_lt hkz]
      simp [at_, List.getD_eq_getElem?_getD, hk]
    · rw [Array.getElem?_setIfInBounds_ne e, hcj]
      simp [at_, List.getD_eq_getElem?_getD, e]
theorem Bytes.drewN {w : World} {b : Nat} {l : List UInt8} (h : Bytes w b l) (n : Nat) : Bytes (w.drewN n) b l := h
theorem Bytes.below {w w' : World} {b : Nat} {l : List UInt8} (h : Bytes w b l) (hb : Below w.heap.size w w') : Bytes w' b l := by
  obtain ⟨cs, lo, hi, h1, hl, hc⟩ := h
  exact ⟨cs, lo, hi, (hb.block b (Array.getElem?_eq_some_iff.1 h1).1).trans h1, hl, hc⟩

/-- string(b) -/
theorem conv_bytes (w : World) (b cap : Nat) (l : List UInt8) (h : Bytes w b l) :
    (convert 40 9 (.slice (some ⟨b, 0, none⟩) l.length cap)).run Tryd.prog w = .ok (.string (S l)) w := by
  refine run_convert_bytes_back w 40 9 5 ⟨b, 0, none⟩ cap l Tryd.underlying40 Tryd.underlying5 Tryd.underlying9 (fun j hj => ?_)
  have := h.cell hj
  have e : (⟨b, 0, none⟩ : Addr).add j = ⟨b, j, none⟩ := by unfold Addr.add; split <;> simp_all
  rw [e, this]
  simp [at_, List.getD_eq_getElem?_getD, List.getElem?_eq_getElem hj]

/-- []byte(s) -/
theorem conv_string (w : World) (s : ByteArray) :
    ∃ cap W, (convert 9 40 (.string s)).run Tryd.prog w = .ok (.slice (some ⟨w.heap.size, 0, none⟩) s.size cap) W ∧ Bytes W w.heap.size (L s) ∧ Below w.heap.size w W := by
  refine ⟨_, _, run_bytes_of_string w 9 40 5 s Tryd.underlying9 Tryd.underlying40 Tryd.underlying5, ?_, ?_⟩
  · refine ⟨_, _, _, heap_alloc_new w.drew _, ?_, fun j hj => ?_⟩
    · rw [L_length]; unfold bytesRow; rw [Array.size_append, Array.size_map]; exact Nat.le_add_right _ _
    · rw [bytesRow_at s _ j (by simpa [L_length] using hj)]
      simp [at_, L, List.getD_eq_getElem?_getD, List.getElem?_eq_getElem (show j < s.data.toList.length by simpa [L] using hj)]
  · exact (Below.refl _ _).drew.alloc (Nat.le_refl _) _

theorem set_at {l : List UInt8} {k : Nat} (h : k < l.length) : (l.getD k 0).toNat = (at_ l k).toNat := by simp [at_]
end Go.Proofs.YtpidgmamollmgaaDoor
end

section
/- Packets, changed: what the statements say of them, plain. No walk. -/
set_option linter.unusedVariables false
namespace Go.Proofs.YtpidgmamollmgaaDoor
open Go.RowKit

theorem load_ends (h : Hd) (l : ByteArray) : (loadSeen h l).t.a = h.s ∧ (loadSeen h l).t.c = h.d ∧ (loadSeen h l).l = h.l := by
  unfold loadSeen
  split
  · exact ⟨rfl, rfl, rfl⟩
  split
  · exact ⟨rfl, rfl, rfl⟩
  split
  · exact ⟨rfl, rfl, rfl⟩
  split <;> exact ⟨rfl, rfl, rfl⟩
theorem load_ports (h : Hd) (l : ByteArray) : (0 ≤ (loadSeen h l).t.b ∧ (loadSeen h l).t.b ≤ 65535) ∧ (0 ≤ (loadSeen h l).t.d ∧ (loadSeen h l).t.d ≤ 65535) := by
  have g := fun l' i => get16_bd l' i
  unfold loadSeen
  split
  · exact ⟨g _ _, g _ _⟩
  split
  · exact ⟨g _ _, g _ _⟩
  split
  · exact ⟨g _ _, by dsimp only; omega⟩
  split
  · exact ⟨by dsimp only; omega, g _ _⟩
  · exact ⟨by dsimp only; omega, by dsimp only; omega⟩
theorem seenTo_sum (x : Seen) (a b c d : Int) (own : Nat) : sumAtL (seenTo x a b c d) own = sumAtL x own := by
  unfold seenTo
  split
  · rfl
  split
  · rfl
  split <;> rfl
theorem seenTo_l (x : Seen) (a b c d : Int) : (seenTo x a b c d).l = x.l - 1 := by
  unfold seenTo
  split
  · rfl
  split
  · rfl
  split <;> rfl
theorem taken_whole {s : ByteArray} (h : seenWhy s = 0) : ∃ H P R, s = S (H ++ P ++ R) ∧ Whole H P ∧ loadWhy (at_ H 9) (S P) = 0 ∧ seenOf s = loadSeen (hdL H) (S P) ∧ (seenOf s).l = at_ H 8 := by
  have hip : ipWhy s = 0 := by
    unfold seenWhy at h
    by_cases hi : ipWhy s = 0
    · exact hi
    · rw [if_neg hi] at h; exact h
  obtain ⟨H, P, R, rfl, w⟩ := whole_of hip
  obtain ⟨e1, e2, _⟩ := seen_whole R w
  rw [e1] at h
  exact ⟨H, P, R, rfl, w, h, e2 h, by rw [e2 h]; exact (load_ends _ _).2.2⟩
/-- what a whole packet is, changed -/
theorem out_whole {H P : List UInt8} (R : List UInt8) {a b c d : Int} (w : Whole H P) (hw : loadWhy (at_ H 9) (S P) = 0) (h8 : 2 ≤ at_ H 8) (ha : 0 ≤ a ∧ a ≤ 4294967295) (hb : 0 ≤ b ∧ b ≤ 65535) (hc : 0 ≤ c ∧ c ≤ 4294967295) (hd : 0 ≤ d ∧ d ≤ 65535) :
    ∃ G Q, Whole G Q ∧ G = headNew H a c ∧ Q = loadNew (loadSeen (hdL H) (S P)) P ((H.drop 12).take 8) a b c d ∧ rwWhy (S (H ++ P ++ R)) = 0 ∧ rwOut (S (H ++ P ++ R)) a b c d = S (G ++ Q) ∧ G.length = H.length ∧ Q.length = P.length ∧ at_ G 8 = at_ H 8 - 1 ∧ at_ G 9 = at_ H 9 ∧
      loadWhy (at_ G 9) (S Q) = 0 ∧ loadSeen (hdL G) (S Q) = seenTo (loadSeen (hdL H) (S P)) a b c d ∧ (G.drop 12).take 8 = ipsOf a c := by
  obtain ⟨c1, c2, c3, c4, c5, c6⟩ := change w hw (by omega) ha hb hc hd
  obtain ⟨e1, e2, e3⟩ := seen_whole R w
  have hy : rwWhy (S (H ++ P ++ R)) = 0 := by
    unfold rwWhy
    rw [e1, if_neg (by omega), e2 hw, if_neg]
    rw [(load_ends _ _).2.2]
    show ¬ at_ H 8 < 2
    omega
  refine ⟨_, _, c1, rfl, rfl, hy, ?_, headNew_length a c w.h20, c2, c4, c3, by rw [c3]; exact c5, c6, ips_new a c w.h20⟩
  unfold rwOut
  rw [if_pos hy, e3, e2 hw]
def plainOf (s : ByteArray) : ByteArray := S (plainL (L s) (sumAtL (seenOf s) (ipOwn (L s)).toNat))
theorem plainOf_whole {H P : List UInt8} (w : Whole H P) (hw : loadWhy (at_ H 9) (S P) = 0) : plainOf (S (H ++ P)) = S (plainL (H ++ P) (sumAtL (loadSeen (hdL H) (S P)) H.length)) := by
  obtain ⟨e1, e2, e3⟩ := seen_whole [] w
  rw [List.append_nil] at e2
  have h20 := w.h20
  unfold plainOf
  rw [e2 hw, L_S, own_app (by omega), w.own, Int.toNat_natCast]
theorem app_nil (l : List UInt8) : S l = S (l ++ []) := by rw [List.append_nil]

theorem rw_twice {s : ByteArray} {a b c d a2 b2 c2 d2 : Int} (h : seenWhy s = 0) (hl : 2 < (seenOf s).l) (ha : 0 ≤ a ∧ a ≤ 4294967295) (hb : 0 ≤ b ∧ b ≤ 65535) (hc : 0 ≤ c ∧ c ≤ 4294967295) (hd : 0 ≤ d ∧ d ≤ 65535)
    (ha2 : 0 ≤ a2 ∧ a2 ≤ 4294967295) (hb2 : 0 ≤ b2 ∧ b2 ≤ 65535) (hc2 : 0 ≤ c2 ∧ c2 ≤ 4294967295) (hd2 : 0 ≤ d2 ∧ d2 ≤ 65535) :
    rwWhy s = 0 ∧ rwWhy (rwOut s a b c d) = 0 ∧ 20 ≤ (rwOut (rwOut s a b c d) a2 b2 c2 d2).size ∧ 20 ≤ (rwOut s a2 b2 c2 d2).size ∧
    plainOf (rwOut (rwOut s a b c d) a2 b2 c2 d2) = plainOf (rwOut s a2 b2 c2 d2) := by
  obtain ⟨H, P, R, rfl, w, hw, hx, h8⟩ := taken_whole h
  rw [h8] at hl
  have h20 := w.h20
  obtain ⟨G, Q, wG, eG, eQ, y1, o1, zG, zQ, G8, G9, hwG, xG, iG⟩ := out_whole R (a := a) (b := b) (c := c) (d := d) w hw (by omega) ha hb hc hd
  obtain ⟨K, U, wK, eK, eU, y2, o2, zK, zU, K8, K9, hwK, xK, iK⟩ := out_whole [] (a := a2) (b := b2) (c := c2) (d := d2) wG hwG (by omega) ha2 hb2 hc2 hd2
  obtain ⟨M, V, wM, eM, eV, y3, o3, zM, zV, M8, M9, hwM, xM, iM⟩ := out_whole R (a := a2) (b := b2) (c := c2) (d := d2) w hw (by omega) ha2 hb2 hc2 hd2
  rw [← app_nil] at y2 o2
  rw [o1, o2, o3]
  refine ⟨y1, y2, ?_, ?_, ?_⟩
  · rw [S_size]; simp; omega
  · rw [S_size]; simp; omega
  · rw [plainOf_whole wK hwK, plainOf_whole wM hwM, xK, xM, xG, seenTo_sum, seenTo_sum, seenTo_sum]
    have hi : ((H.drop 12).take 8).length = 8 := by simp; omega
    have lk := (load_two (h := hdL H) (g := hdL G) (P := P) (ips := (H.drop 12).take 8) (a := a) (b := b) (c := c) (d := d) (a2 := a2) (b2 := b2) (c2 := c2) (d2 := d2) hw hi hb hd hb2 hd2).1
    rw [← eQ, ← eV, ← iG, ← xG, ← eU] at lk
    congr 1
    exact Like.plain (H := K) (G := M) lk (by omega) (by omega) (by rw [eK, eM, eG, zero_twice _ _ _ _ h20])
theorem rw_back {s : ByteArray} {a b c d : Int} (h : seenWhy s = 0) (hl : 2 < (seenOf s).l) (ha : 0 ≤ a ∧ a ≤ 4294967295) (hb : 0 ≤ b ∧ b ≤ 65535) (hc : 0 ≤ c ∧ c ≤ 4294967295) (hd : 0 ≤ d ∧ d ≤ 65535) (u : ByteArray) (hu : rwOut (rwOut s a b c d) (seenOf s).t.a (seenOf s).t.b (seenOf s).t.c (seenOf s).t.d = u) :
    rwWhy s = 0 ∧ rwWhy (rwOut s a b c d) = 0 ∧ 20 ≤ u.size ∧ u.size ≤ s.size ∧ at_ (L u) 8 = at_ (L s) 8 - 2 ∧ plainOf u = plainOf (s.extract 0 u.size) := by
  obtain ⟨H, P, R, rfl, w, hw, hx, h8⟩ := taken_whole h
  rw [h8] at hl
  have h20 := w.h20
  obtain ⟨ea, ec, _⟩ := load_ends (hdL H) (S P)
  obtain ⟨hb2, hd2⟩ := load_ports (hdL H) (S P)
  have ha2 : 0 ≤ (loadSeen (hdL H) (S P)).t.a ∧ (loadSeen (hdL H) (S P)).t.a ≤ 4294967295 := by rw [ea]; exact be32_bd _ _
  have hc2 : 0 ≤ (loadSeen (hdL H) (S P)).t.c ∧ (loadSeen (hdL H) (S P)).t.c ≤ 4294967295 := by rw [ec]; exact be32_bd _ _
  rw [hx] at hu
  obtain ⟨G, Q, wG, eG, eQ, y1, o1, zG, zQ, G8, G9, hwG, xG, iG⟩ := out_whole R (a := a) (b := b) (c := c) (d := d) w hw (by omega) ha hb hc hd
  obtain ⟨K, U, wK, eK, eU, y2, o2, zK, zU, K8, K9, hwK, xK, iK⟩ := out_whole [] (a := (loadSeen (hdL H) (S P)).t.a) (b := (loadSeen (hdL H) (S P)).t.b) (c := (loadSeen (hdL H) (S P)).t.c) (d := (loadSeen (hdL H) (S P)).t.d) wG hwG (by omega) ha2 hb2 hc2 hd2
  rw [← app_nil] at y2 o2
  rw [o1, o2] at hu
  subst hu
  rw [o1]
  have zu : (S (K ++ U)).size = H.length + P.length := by rw [S_size]; simp; omega
  have zs : (S (H ++ P ++ R)).size = H.length + P.length + R.length := by rw [S_size]; simp; omega
  have ex : (S (H ++ P ++ R)).extract 0 (S (K ++ U)).size = S (H ++ P) := by
    rw [← S_L ((S (H ++ P ++ R)).extract _ _), L_to, zu, L_S, List.take_left' (by simp)]
  refine ⟨y1, y2, by omega, by omega, ?_, ?_⟩
  · rw [L_S, L_S, List.append_assoc, at_left (by omega), at_left (by omega)]; omega
  · rw [ex, plainOf_whole wK hwK, plainOf_whole w hw, xK, xG, seenTo_sum, seenTo_sum]
    have hi : ((H.drop 12).take 8).length = 8 := by simp; omega
    have lk := (load_two (h := hdL H) (g := hdL G) (P := P) (ips := (H.drop 12).take 8) (a := a) (b := b) (c := c) (d := d) (a2 := (loadSeen (hdL H) (S P)).t.a) (b2 := (loadSeen (hdL H) (S P)).t.b) (c2 := (loadSeen (hdL H) (S P)).t.c) (d2 := (loadSeen (hdL H) (S P)).t.d) hw hi hb hd hb2 hd2).2 (by rw [ea, ec]; exact ips_self h20) rfl rfl
    rw [← eQ, ← iG, ← xG, ← eU] at lk
    congr 1
    refine Like.plain (H := K) (G := H) lk (by omega) (by omega) ?_
    rw [eK, eG, ea, ec]
    exact zero_back a c h20

/-- the places in which a packet that was changed may be another one -/
def okAt (x : Seen) (own k i : Nat) : Prop := (8 ≤ i ∧ i < 20 ∧ i ≠ 9) ∨ (x.t.p ≠ 1 ∧ own ≤ i ∧ i < own + 4) ∨ (x.t.p = 1 ∧ 0 < k ∧ own + 4 ≤ i ∧ i < own + 6) ∨ (k ≠ 0 ∧ (i = k ∨ i = k + 1))
theorem load_at {h : Hd} {P ips : List UInt8} {a b c d : Int} (hw : loadWhy h.p (S P) = 0) (own j : Nat) :
    at_ (loadNew (loadSeen h (S P)) P ips a b c d) j = at_ P j ∨ okAt (loadSeen h (S P)) own (sumAtL (loadSeen h (S P)) own) (own + j) := by
  rcases load_cases hw with ⟨hp, ht⟩ | ⟨hp, ht⟩ | ⟨hp, h8, ht⟩
  · have hz := tcpIs_len ht
    rw [seen_tcp hp hz]
    unfold loadNew sumAtL okAt
    rw [if_pos rfl, if_pos rfl]
    simp only
    by_cases hj : 4 ≤ j ∧ (j < 16 ∨ 18 ≤ j)
    · left; exact flow_at (by omega) (by omega) hj.1 hj.2
    · right; omega
  · have hz := udpIs_len ht
    rw [seen_udp hp hz]
    unfold loadNew sumAtL okAt
    rw [if_neg (by dsimp only; decide), if_pos rfl, if_neg (by dsimp only; decide), if_pos rfl]
    simp only
    by_cases hj : 4 ≤ j ∧ (j < 6 ∨ 8 ≤ j)
    · left; exact flow_at (by omega) (by omega) hj.1 hj.2
    · right; omega
  · have ask : ∀ id, at_ (queryOf P id) j = at_ P j ∨ (2 ≤ j ∧ j < 6) := by
      intro id
      by_cases hj : j < 2 ∨ 6 ≤ j
      · left; exact query_at h8 hj
      · right; omega
    rw [seen_msg hp h8]
    by_cases ha : qAsk (msgOf (S P)) = true
    · rw [if_pos ha]
      unfold loadNew sumAtL okAt
      rw [if_neg (by dsimp only; decide), if_neg (by dsimp only; decide), if_neg (by dsimp only; decide), if_pos rfl, if_neg (by dsimp only; decide), if_neg (by dsimp only; decide), if_neg (by dsimp only; decide)]
      rcases ask b with q | q
      · exact Or.inl q
      · by_cases h4 : j < 4
        · exact Or.inr (Or.inr (Or.inr (Or.inr ⟨by omega, by omega⟩)))
        · exact Or.inr (Or.inr (Or.inr (Or.inl ⟨rfl, by omega, by omega, by omega⟩)))
    rw [if_neg ha]
    by_cases hq : qIs (msgOf (S P)) = true
    · rw [if_pos hq]
      unfold loadNew sumAtL okAt
      rw [if_neg (by dsimp only; decide), if_neg (by dsimp only; decide), if_neg (by dsimp only; decide), if_neg (by dsimp only; decide), if_neg (by dsimp only; decide), if_neg (by dsimp only; decide), if_neg (by dsimp only; decide)]
      rcases ask d with q | q
      · exact Or.inl q
      · by_cases h4 : j < 4
        · exact Or.inr (Or.inr (Or.inr (Or.inr ⟨by omega, by omega⟩)))
        · exact Or.inr (Or.inr (Or.inr (Or.inl ⟨rfl, by omega, by omega, by omega⟩)))
    · rw [if_neg hq]
      left
      unfold loadNew
      rw [if_neg (by dsimp only; decide), if_neg (by dsimp only; decide), if_pos rfl]
theorem rw_seen {s : ByteArray} {a b c d : Int} (h : seenWhy s = 0) (hl : 1 < (seenOf s).l) (ha : 0 ≤ a ∧ a ≤ 4294967295) (hb : 0 ≤ b ∧ b ≤ 65535) (hc : 0 ≤ c ∧ c ≤ 4294967295) (hd : 0 ≤ d ∧ d ≤ 65535) (t : ByteArray) (ht : rwOut s a b c d = t) :
    rwWhy s = 0 ∧ seenWhy t = 0 ∧ seenOf t = seenTo (seenOf s) a b c d ∧ 20 ≤ t.size ∧ t.size ≤ s.size ∧ (∀ i, i < t.size → at_ (L s) i = at_ (L t) i ∨ okAt (seenOf s) (ipOwn (L t)).toNat (sumAtL (seenOf t) (ipOwn (L t)).toNat) i) := by
  obtain ⟨H, P, R, rfl, w, hw, hx, h8⟩ := taken_whole h
  rw [h8] at hl
  have h20 := w.h20
  obtain ⟨G, Q, wG, eG, eQ, y1, o1, zG, zQ, G8, G9, hwG, xG, iG⟩ := out_whole R (a := a) (b := b) (c := c) (d := d) w hw (by omega) ha hb hc hd
  rw [o1] at ht
  subst ht
  obtain ⟨e1, e2, e3⟩ := seen_whole [] wG
  rw [← app_nil] at e1 e2
  have hs : seenOf (S (G ++ Q)) = seenTo (seenOf (S (H ++ P ++ R))) a b c d := by rw [e2 hwG, xG, hx]
  have ho : (ipOwn (L (S (G ++ Q)))).toNat = H.length := by rw [L_S, own_app (by omega), wG.own, Int.toNat_natCast, zG]
  refine ⟨y1, by rw [e1]; exact hwG, hs, by rw [S_size]; simp; omega, by rw [S_size, S_size]; simp; omega, ?_⟩
  intro i hi
  rw [S_size] at hi
  simp at hi
  rw [hs, seenTo_sum, ho, hx, L_S, L_S, List.append_assoc]
  by_cases hH : i < H.length
  · rw [at_left hH, at_left (by omega)]
    by_cases hk : i < 8 ∨ i = 9 ∨ 20 ≤ i
    · left; rw [eG, head_at a c h20 hk]
    · right; left; omega
  · obtain ⟨j, rfl⟩ : ∃ j, i = H.length + j := ⟨i - H.length, by omega⟩
    rw [at_right (a := H) (by omega), at_right (a := G) (by omega), at_left (a := P) (by omega), zG, show H.length + j - H.length = j from by omega, eQ]
    rcases load_at (a := a) (b := b) (c := c) (d := d) (ips := (H.drop 12).take 8) (h := hdL H) hw H.length j with q | q
    · left; exact q.symm
    · right; exact q
end Go.Proofs.YtpidgmamollmgaaDoor
end
