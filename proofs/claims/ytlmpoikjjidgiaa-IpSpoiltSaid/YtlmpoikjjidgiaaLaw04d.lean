/- A header of which one bit is turned is not taken: the walk. -/
import Derived.Test.YtlmpoikjjidgiaaIp9
import Derived.Test.YtlmpoikjjidgiaaBytes
import Derived.BigRegion
set_option linter.unusedVariables false
set_option linter.unusedSimpArgs false
namespace Go.Proofs.Ytlmpoikjjidgiaa
open Go.RowKit
attribute [local go_sem] Oper.semAt_some

set_option maxRecDepth 100000 in
set_option maxHeartbeats 2000000 in
theorem IpSpoilt_walk (t i : Int) (f : Bool) (l p s d : Int) (o q : ByteArray) (c : Int) (w : World) (k0 : 0 ≤ t ∧ t ≤ 255) (k1 : 0 ≤ i ∧ i ≤ 65535) (k3 : 0 ≤ l ∧ l ≤ 255) (k4 : 0 ≤ p ∧ p ≤ 255) (k5 : 0 ≤ s ∧ s ≤ 4294967295) (k6 : 0 ≤ d ∧ d ≤ 4294967295) (ho : o.size ≤ 140737488351232) (hq : q.size ≤ 140737488351232) (hc : 0 ≤ c ∧ c ≤ 65535) :
    Calls Try.prog 12 #[.agg #[.int .u8 t, .int .u16 i, .bool f, .int .u8 l, .int .u8 p, .int .u32 s, .int .u32 d, .string o], .string q, .int .u16 c] w (Ret (.bool true) w) := by
  by_cases h1 : 100 < o.size
  · go_enter Try.func12, Try.ntmps12
    go_wp2_with fail
    (with_reducible refine (headed _).mono ?_)
    rintro e w1 ⟨rfl, b1⟩
    replace b1 : Below w.heap.size w w1 := by (refine bstep ?_ b1); (repeat' (first | with_reducible exact Below.refl _ _ | with_reducible refine Below.setCell ?_ (by first | exact Nat.le_refl _ | (dsimp only; omega)) _ | with_reducible refine bstep ?_ (fresh_below _ _) | with_reducible refine Below.drew ?_))
    have z1 : w.heap.size ≤ w1.heap.size := b1.size
    go_wp2_with fail
    go_ret
    exact ⟨rfl, (by (repeat' (first | with_reducible exact b1 | with_reducible exact Below.refl _ _ | with_reducible refine Below.setCell ?_ (by first | exact Nat.le_refl _ | (dsimp only; omega)) _ | with_reducible refine bstep ?_ (fresh_below _ _) | with_reducible refine Below.drew ?_)))⟩
  by_cases h2 : 2100 < q.size
  · go_enter Try.func12, Try.ntmps12
    go_wp2_with fail
    (with_reducible refine (headed _).mono ?_)
    rintro e w1 ⟨rfl, b1⟩
    replace b1 : Below w.heap.size w w1 := by (refine bstep ?_ b1); (repeat' (first | with_reducible exact Below.refl _ _ | with_reducible refine Below.setCell ?_ (by first | exact Nat.le_refl _ | (dsimp only; omega)) _ | with_reducible refine bstep ?_ (fresh_below _ _) | with_reducible refine Below.drew ?_))
    have z1 : w.heap.size ≤ w1.heap.size := b1.size
    go_wp2_with fail
    go_ret
    exact ⟨rfl, (by (repeat' (first | with_reducible exact b1 | with_reducible exact Below.refl _ _ | with_reducible refine Below.setCell ?_ (by first | exact Nat.le_refl _ | (dsimp only; omega)) _ | with_reducible refine bstep ?_ (fresh_below _ _) | with_reducible refine Below.drew ?_)))⟩
  have h4 : ¬ 100 < (o.size : Int) := by omega
  have h5 : ¬ 2100 < (q.size : Int) := by omega
  have hk : (Hd.mk t i f l p s d o).Ok := ⟨k0, k1, k3, k4, k5, k6, ho⟩
  have c1 := fun W => i_Put t i l p s d f o q W hk hq
  by_cases he : ipErr (Hd.mk t i f l p s d o) q = 0
  · have hbk := ip_back (Hd.mk t i f l p s d o) q { data := #[] } hk he
    obtain ⟨g1, g2, g3⟩ := ipErr_0 he
    have hsp := fun k => ip_spoilt (Hd.mk t i f l p s d o) q k hk he
    rw [he, show ipText (Hd.mk t i f l p s d o) q = S ((Hd.mk t i f l p s d o).put q) from by unfold ipText; rw [if_pos he]] at c1
    obtain ⟨x, hx⟩ : ∃ x, x = S ((Hd.mk t i f l p s d o).put q) := ⟨_, rfl⟩
    rw [← hx] at hbk c1
    obtain ⟨e1, -⟩ := hbk
    simp only at e1 g1 g2 g3 hsp
    have hLx : (Hd.mk t i f l p s d o).put q = L x := by rw [hx, L_S]
    rw [hLx] at hsp
    obtain ⟨c0, cm⟩ := hc
    have C1 := hide c1; have HSP := hide hsp
    clear c1 k0 k1 k3 k4 k5 k6 hk he hx hLx hsp ho hq g2
    have m2 : ¬ (x.size : Int) < 20 := by omega
    have m3 : ¬ (20 + (o.size : Int) + (q.size : Int)) < 20 := by omega
    go_enter Try.func12, Try.ntmps12
    have d0 := Cells.new w #[.int .u8 t, .int .u16 i, .bool f, .int .u8 l, .int .u8 p, .int .u32 s, .int .u32 d, .string o] 48
    go_wp2_with fail
    (with_reducible refine (C1.out _).mono ?_)
    rintro e w1 ⟨rfl, b1⟩
    replace b1 : Below w.heap.size w w1 := bstep (fresh_below _ _) b1
    clear d0
    obtain ⟨cap, W, hrun, hB0, hbel⟩ := conv_string w1 x
    obtain ⟨k, hk⟩ : ∃ k : Nat, c % (8 * (20 + (o.size : Int))) = k :=
      ⟨(c % (8 * (20 + (o.size : Int)))).toNat, (Int.toNat_of_nonneg (Int.emod_nonneg _ (by omega))).symm⟩
    have hkb : (k : Int) < 8 * (20 + (o.size : Int)) := by
      have := Int.emod_lt_of_pos c (show 0 < 8 * (20 + (o.size : Int)) by omega)
      omega
    obtain ⟨y, hy⟩ : ∃ y, y = at_ (L x) (k / 8) := ⟨_, rfl⟩
    have hc := hB0.cell (j := k / 8) (by rw [L_length]; omega)
    have hf := hB0.frozen (j := k / 8) (by rw [L_length]; omega)
    rw [← hy] at hc
    have hyb : 0 ≤ y ∧ y ≤ 255 := by rw [hy]; exact at_bd _ _
    have HB := hide hB0; have HY := hide hy
    clear hB0 hy
    have nb : w.heap.size ≤ w1.heap.size := b1.size
    have j1 : (0 : Int) ≤ (k : Int) / 8 := by omega
    have j2 : (k : Int) / 8 < (x.size : Int) := by omega
    have j3 : ((k : Int) / 8).toNat = k / 8 := by omega
    have j4 : (0 : Int) ≤ (k : Int) % 8 := by omega
    have j5 : (k : Int) % 8 < 8 := by omega
    have e1i : (x.size : Int) = 20 + (o.size : Int) + (q.size : Int) := by omega
    have e2i : (x.size : Int) - (q.size : Int) = 20 + (o.size : Int) := by omega
    rw [← hk] at hkb j1 j2 j3 j4 j5
    go_wp2_with fail
    go_region
    have hxf : bits .xor .u8 y (2 ^ (k % 8) % 256) = ((byt (fl y (k % 8))).toNat : Int) := by
      rw [xor_fl hyb (by omega), byt_int _ (fl_bd hyb (by omega)).1]
      have := fl_bd hyb (show k % 8 < 8 by omega)
      omega
    rw [hxf]
    have hB2 : Bytes (W.setCell ⟨w1.heap.size, k / 8, none⟩ (.int .u8 ((byt (fl y (k % 8))).toNat : Int))).drew w1.heap.size (flip (L x) k) := by
      have := HB.out.set_ (k := k / 8) (x := byt (fl y (k % 8))) (by rw [L_length]; omega)
      rw [HY.out] at this ⊢
      exact this
    have b3 : Below w.heap.size w (W.setCell ⟨w1.heap.size, k / 8, none⟩ (.int .u8 ((byt (fl y (k % 8))).toNat : Int))).drew :=
      ((bstep b1 hbel).setCell (p := ⟨w1.heap.size, k / 8, none⟩) nb _).drew
    generalize (W.setCell ⟨w1.heap.size, k / 8, none⟩ (.int .u8 ((byt (fl y (k % 8))).toNat : Int))).drew = W2 at *
    have hcv := conv_bytes W2 w1.heap.size cap (flip (L x) k) hB2
    rw [flip_length, L_length, e1] at hcv
    obtain ⟨u, hu⟩ : ∃ u, u = S (flip (L x) k) := ⟨_, rfl⟩
    have zu : u.size = x.size := by rw [hu, S_size, flip_length, L_length]
    have f3 := fun w => i_Parse u w (by omega)
    have hne : 4 ≤ k → ipWhy u ≠ 0 := fun h => by rw [hu]; exact HSP.out k h (by omega)
    rw [← hu] at hcv
    obtain ⟨g, hg⟩ : ∃ g, g = hdRes u := ⟨_, rfl⟩
    rw [← hg] at f3
    generalize ipRest u = ur at *
    generalize ipWhy u = why at *
    obtain ⟨g0, g1', g2, g3', g4, g5, g6, g7⟩ := g
    simp only [Hd.cells] at f3
    have F3 := hide f3
    clear f3 hg hB2 hxf HB HY hc hf hrun hu hyb HSP
    by_cases hk4 : 4 ≤ k
    · have n1 : (why != 0) = true := by simpa using hne hk4
      have n2 : (why == 0) = false := by simpa using hne hk4
      have n3 : ¬ (k : Int) < 4 := by omega
      clear hne
      go_wp2_with fail
      (with_reducible refine (F3.out _).mono ?_)
      rintro e3 w3 ⟨rfl, b4⟩
      replace b4 : Below w.heap.size w w3 := bstep b3 b4
      have z4 : w.heap.size ≤ w3.heap.size := b4.size
      have b6 : Below w.heap.size w (w3.alloc (.cells #[.int .u8 g0, .int .u16 g1', .bool g2, .int .u8 g3', .int .u8 g4, .int .u32 g5, .int .u32 g6, .string g7] 48)) := bstep b4 (fresh_below _ _)
      go_wp2_with fail
      (with_reducible refine (headed _).mono ?_)
      rintro e w5 ⟨rfl, b5⟩
      replace b5 : Below w.heap.size w w5 := by (refine bstep ?_ b5); (repeat' (first | with_reducible exact b6 | with_reducible exact Below.refl _ _ | with_reducible refine Below.setCell ?_ (by first | exact Nat.le_refl _ | (dsimp only; omega)) _ | with_reducible refine bstep ?_ (fresh_below _ _) | with_reducible refine Below.drew ?_))
      have z5 : w.heap.size ≤ w5.heap.size := b5.size
      go_wp2_with fail
      go_ret
      exact ⟨rfl, (by (repeat' (first | with_reducible exact b5 | with_reducible exact Below.refl _ _ | with_reducible refine Below.setCell ?_ (by first | exact Nat.le_refl _ | (dsimp only; omega)) _ | with_reducible refine bstep ?_ (fresh_below _ _) | with_reducible refine Below.drew ?_)))⟩
    · have n3 : (k : Int) < 4 := by omega
      clear hne
      go_wp2_with fail
      (with_reducible refine (F3.out _).mono ?_)
      rintro e3 w3 ⟨rfl, b4⟩
      replace b4 : Below w.heap.size w w3 := bstep b3 b4
      have z4 : w.heap.size ≤ w3.heap.size := b4.size
      have b6 : Below w.heap.size w (w3.alloc (.cells #[.int .u8 g0, .int .u16 g1', .bool g2, .int .u8 g3', .int .u8 g4, .int .u32 g5, .int .u32 g6, .string g7] 48)) := bstep b4 (fresh_below _ _)
      go_wp2_with fail
      (with_reducible refine (headed _).mono ?_)
      rintro e w5 ⟨rfl, b5⟩
      replace b5 : Below w.heap.size w w5 := by (refine bstep ?_ b5); (repeat' (first | with_reducible exact b6 | with_reducible exact Below.refl _ _ | with_reducible refine Below.setCell ?_ (by first | exact Nat.le_refl _ | (dsimp only; omega)) _ | with_reducible refine bstep ?_ (fresh_below _ _) | with_reducible refine Below.drew ?_))
      have z5 : w.heap.size ≤ w5.heap.size := b5.size
      go_wp2_with fail
      go_ret
      exact ⟨rfl, (by (repeat' (first | with_reducible exact b5 | with_reducible exact Below.refl _ _ | with_reducible refine Below.setCell ?_ (by first | exact Nat.le_refl _ | (dsimp only; omega)) _ | with_reducible refine bstep ?_ (fresh_below _ _) | with_reducible refine Below.drew ?_)))⟩
  · have hte : ipText (Hd.mk t i f l p s d o) q = { data := #[] } := ipText_no he
    rw [hte] at c1
    obtain ⟨er, her⟩ : ∃ x, x = ipErr (Hd.mk t i f l p s d o) q := ⟨_, rfl⟩
    rw [← her] at c1 he
    have n1 : (er != 0) = true := by simpa using he
    have n2 : (er == 0) = false := by simpa using he
    have C1 := hide c1
    clear c1 k0 k1 k3 k4 k5 k6 hk hte her he
    go_enter Try.func12, Try.ntmps12
    have d0 := Cells.new w #[.int .u8 t, .int .u16 i, .bool f, .int .u8 l, .int .u8 p, .int .u32 s, .int .u32 d, .string o] 48
    go_wp2_with fail
    (with_reducible refine (C1.out _).mono ?_)
    rintro e w1 ⟨rfl, b1⟩
    replace b1 : Below w.heap.size w w1 := bstep (fresh_below _ _) b1
    clear d0
    go_wp2_with fail
    (with_reducible refine (headed _).mono ?_)
    rintro e w5 ⟨rfl, b5⟩
    replace b5 : Below w.heap.size w w5 := by (refine bstep ?_ b5); (repeat' (first | with_reducible exact b1 | with_reducible exact Below.refl _ _ | with_reducible refine Below.setCell ?_ (by first | exact Nat.le_refl _ | (dsimp only; omega)) _ | with_reducible refine bstep ?_ (fresh_below _ _) | with_reducible refine Below.drew ?_))
    have z5 : w.heap.size ≤ w5.heap.size := b5.size
    go_wp2_with fail
    go_ret
    exact ⟨rfl, (by (repeat' (first | with_reducible exact b5 | with_reducible exact Below.refl _ _ | with_reducible refine Below.setCell ?_ (by first | exact Nat.le_refl _ | (dsimp only; omega)) _ | with_reducible refine bstep ?_ (fresh_below _ _) | with_reducible refine Below.drew ?_)))⟩
end Go.Proofs.Ytlmpoikjjidgiaa
