/- UdpSeal walked: it returns true and leaves what lay there as it lay. -/
import Derived.Test.YthmedjlecikbiaaLaw05
import Derived.Test.YthmedjlecikbiaaStr
import Derived.Test.YthmedjlecikbiaaBytes
import Derived.BigRegion
set_option linter.unusedVariables false
namespace Go.Proofs.Ythmedjlecikbiaa
open Go.RowKit
attribute [local go_sem] Oper.semAt_some

theorem udpOk_seal (a b : Int) {l : List UInt8} (h : 8 ≤ l.length) : udpOk a b (S (lay l 6 (udpSum a b l))) = true := by
  have hb := udpSum_bd a b l
  have hz := lay_length (l := l) (k := 6) (n := udpSum a b l) (by omega)
  have hs : udpSum a b l = sumL ([pseudo a b 17 l.length] ++ [lay l 6 0]) ∨ udpSum a b l = 65535 ∧ sumL ([pseudo a b 17 l.length] ++ [lay l 6 0]) = 0 := by
    have e : udpSum a b l = if sumL ([pseudo a b 17 l.length] ++ [lay l 6 0]) = 0 then 65535 else sumL ([pseudo a b 17 l.length] ++ [lay l 6 0]) := rfl
    split at e <;> omega
  have hh := lay_holds [pseudo a b 17 l.length] (l := l) (k := 6) (by omega) (by omega) hs
  unfold udpOk
  rw [S_size, L_S, hz]
  rw [show holds [pseudo a b 17 l.length, lay l 6 (udpSum a b l)] = true from hh]
  simp; omega
theorem udpOk_flip (a b : Int) (s : ByteArray) (k : Nat) (h8 : 8 ≤ s.size) (hk : k < 8 * s.size) (hg : get16 (L s) 6 ≠ 0) (h : udpOk a b s = true) :
    udpOk a b (S (flip (L s) k)) = decide (get16 (flip (L s) k) 6 = 0) := by
  have hz := flip_length (L s) k
  have hh : holds ([pseudo a b 17 s.size] ++ [L s]) = true := by
    unfold udpOk at h
    simp [hg] at h
    exact h.2
  have hf := holds_flip [pseudo a b 17 s.size] (L s) k (by rw [L_length]; exact hk) hh
  unfold udpOk
  rw [S_size, L_S, hz, L_length]
  rw [show holds [pseudo a b 17 s.size, flip (L s) k] = false from hf]
  simp; omega
theorem udpSeal_again (a b : Int) {l : List UInt8} (h : 8 ≤ l.length) : udpSeal a b (lay l 6 (udpSum a b l)) = lay l 6 (udpSum a b l) := by
  have hz := lay_length (l := l) (k := 6) (n := udpSum a b l) (by omega)
  rw [udpSeal_lay a b (by omega)]
  have e : udpSum a b (lay l 6 (udpSum a b l)) = udpSum a b l := by
    have e2 : lay (lay l 6 (udpSum a b l)) 6 0 = lay l 6 0 := lay_lay (by omega)
    show (if sumL [pseudo a b 17 (lay l 6 (udpSum a b l)).length, lay (lay l 6 (udpSum a b l)) 6 0] = 0 then 65535 else sumL [pseudo a b 17 (lay l 6 (udpSum a b l)).length, lay (lay l 6 (udpSum a b l)) 6 0]) = _
    rw [hz, e2]; rfl
  rw [e, lay_lay (by omega)]
theorem two_zero {l : List UInt8} {k : Nat} (h : k + 2 ≤ l.length) : (l.drop k).take 2 = [0, 0] ↔ be16 l k = 0 := by
  have e : (l.drop k).take 2 = [l.getD k 0, l.getD (k + 1) 0] := by
    rw [List.getD_eq_getElem?_getD, List.getD_eq_getElem?_getD, List.getElem?_eq_getElem (show k < l.length by omega), List.getElem?_eq_getElem (show k + 1 < l.length by omega), List.drop_eq_getElem_cons (show k < l.length by omega), List.drop_eq_getElem_cons (show k + 1 < l.length by omega)]
    rfl
  rw [e]
  unfold be16 at_
  have h1 := (l.getD k 0).toNat_lt
  have h2 := (l.getD (k + 1) 0).toNat_lt
  constructor
  · intro h
    injection h with h3 h4
    injection h4 with h4
    rw [h3, h4]; rfl
  · intro h
    have h3 : (l.getD k 0).toNat = 0 := by omega
    have h4 : (l.getD (k + 1) 0).toNat = 0 := by omega
    rw [UInt8.toNat_inj.1 (h3.trans (show (0 : Nat) = (0 : UInt8).toNat from rfl)), UInt8.toNat_inj.1 (h4.trans (show (0 : Nat) = (0 : UInt8).toNat from rfl))]

set_option maxHeartbeats 2000000 in
theorem UdpSeal_out (s : ByteArray) (a b c : Int) (w : World) (hs : s.size ≤ 140737488351232) (ha : 0 ≤ a ∧ a ≤ 4294967295) (hb : 0 ≤ b ∧ b ≤ 4294967295) (hc : 0 ≤ c ∧ c ≤ 65535) (hg : s.size < 8 ∨ 600 < s.size) :
    Calls Try.prog 6 #[.string s, .agg #[.int .u32 a, .int .u32 b], .int .u16 c] w (Ret (.bool true) w) := by
  by_cases g : 600 < s.size
  · have g8 : ¬ s.size < 8 := by omega
    clear hg
    go_enter Try.func6, Try.ntmps6
    go_wp2_with fail
    go_wp2_with fail
    (with_reducible refine (sent _).mono ?_)
    rintro e w1 ⟨rfl, b1⟩
    replace b1 : Below w.heap.size w w1 := by (refine bstep ?_ b1); (repeat' (first | exact Below.refl _ _ | with_reducible refine bstep ?_ (fresh_below _ _) | with_reducible refine Below.drew ?_ | with_reducible refine Below.setCell ?_ (by first | exact Nat.le_refl _ | assumption | omega) _))
    have z1 : w.heap.size ≤ w1.heap.size := b1.size
    go_wp2_with fail
    go_ret
    exact ⟨rfl, (by (repeat' (first | exact b1 | exact Below.refl _ _ | with_reducible refine bstep ?_ (fresh_below _ _) | with_reducible refine Below.drew ?_ | with_reducible refine Below.setCell ?_ (by first | exact Nat.le_refl _ | assumption | omega) _)))⟩
  · have g8 : s.size < 8 := by omega
    have c1 := fun w => udp_Seal a b s w ha hb hs
    have c2 := fun w => udp_Check a b s w ha hb hs
    have e1 : S (udpSeal a b (L s)) = s := by unfold udpSeal; rw [L_length, if_pos g8, S_L]
    have e2 : udpOk a b s = false := by unfold udpOk; simp; omega
    rw [e1] at c1
    rw [e2] at c2
    have C1 := hide c1; have C2 := hide c2
    clear c1 c2 e1 e2 hg
    go_enter Try.func6, Try.ntmps6
    have d0 := Cells.new w #[.int .u32 a, .int .u32 b] 40
    go_wp2_with fail
    go_wp2_with fail
    (with_reducible refine (C1.out _).mono ?_)
    rintro e w1 ⟨rfl, b1⟩
    replace d0 := Cells.below b1 d0
    replace b1 : Below w.heap.size w w1 := by (refine bstep ?_ b1); (repeat' (first | exact Below.refl _ _ | with_reducible refine bstep ?_ (fresh_below _ _) | with_reducible refine Below.drew ?_ | with_reducible refine Below.setCell ?_ (by first | exact Nat.le_refl _ | assumption | omega) _))
    have z1 : w.heap.size ≤ w1.heap.size := b1.size
    have xd0_0 : w1.cell? ⟨w.heap.size, 0, none⟩ = some (.int .u32 a) := d0.at_ 0
    have xd0_1 : w1.cell? ⟨w.heap.size, 1, none⟩ = some (.int .u32 b) := d0.at_ 1
    go_wp2_with fail
    (with_reducible refine (C2.out _).mono ?_)
    rintro e w2 ⟨rfl, b2⟩
    replace b2 : Below w.heap.size w w2 := by (refine bstep ?_ b2); (repeat' (first | exact b1 | exact Below.refl _ _ | with_reducible refine bstep ?_ (fresh_below _ _) | with_reducible refine Below.drew ?_ | with_reducible refine Below.setCell ?_ (by first | exact Nat.le_refl _ | assumption | omega) _))
    have z2 : w.heap.size ≤ w2.heap.size := b2.size
    go_wp2_with fail
    (with_reducible refine (sent _).mono ?_)
    rintro e w3 ⟨rfl, b3⟩
    replace b3 : Below w.heap.size w w3 := by (refine bstep ?_ b3); (repeat' (first | exact b2 | exact Below.refl _ _ | with_reducible refine bstep ?_ (fresh_below _ _) | with_reducible refine Below.drew ?_ | with_reducible refine Below.setCell ?_ (by first | exact Nat.le_refl _ | assumption | omega) _))
    have z3 : w.heap.size ≤ w3.heap.size := b3.size
    go_wp2_with fail
    go_ret
    exact ⟨rfl, (by (repeat' (first | exact b3 | exact Below.refl _ _ | with_reducible refine bstep ?_ (fresh_below _ _) | with_reducible refine Below.drew ?_ | with_reducible refine Below.setCell ?_ (by first | exact Nat.le_refl _ | assumption | omega) _)))⟩

set_option maxHeartbeats 2000000 in
theorem UdpSeal_in (s : ByteArray) (a b c : Int) (w : World) (h8 : 8 ≤ s.size) (h6 : s.size ≤ 600) (ha : 0 ≤ a ∧ a ≤ 4294967295) (hb : 0 ≤ b ∧ b ≤ 4294967295) (hc : 0 ≤ c ∧ c ≤ 65535) :
    Calls Try.prog 6 #[.string s, .agg #[.int .u32 a, .int .u32 b], .int .u16 c] w (Ret (.bool true) w) := by
  obtain ⟨a0, a1⟩ := ha
  obtain ⟨b0, hb1⟩ := hb
  obtain ⟨c0, c1⟩ := hc
  have hL : 8 ≤ (L s).length := by rw [L_length]; exact h8
  have hm := udpSum_bd a b (L s)
  have ht0 : S (udpSeal a b (L s)) = S (lay (L s) 6 (udpSum a b (L s))) := by rw [udpSeal_lay a b hL]
  obtain ⟨m, hm0⟩ : ∃ m, m = udpSum a b (L s) := ⟨_, rfl⟩
  obtain ⟨t, ht⟩ : ∃ t, t = S (lay (L s) 6 m) := ⟨_, rfl⟩
  have hLt : L t = lay (L s) 6 m := by rw [ht, L_S]
  have hz : t.size = s.size := by rw [ht, S_size, lay_length (by omega), L_length]
  have e1 : t.extract 0 6 = s.extract 0 6 := by apply L_inj; rw [L_to, L_to, hLt, lay_take (by omega)]
  have e2 : t.extract 8 s.size = s.extract 8 s.size := by
    apply L_inj
    rw [L_from]
    conv => lhs; rw [← hz]
    rw [L_from, hLt, lay_drop (by omega)]
  have hg6 : be16 (L t) 6 = m := by rw [hLt, lay_at (by omega) (by rw [hm0]; omega)]
  have e3 : ((t.extract 6 8).toList == [0, 0]) = false := by
    rw [str_toList, L_extract, beq_eq_false_iff_ne]
    intro e
    have := (two_zero (l := L t) (k := 6) (by rw [L_length]; omega)).1 e
    omega
  have o1 : udpOk a b t = true := by rw [ht, hm0]; exact udpOk_seal a b hL
  have o2 : S (udpSeal a b (L t)) = t := by rw [hLt, hm0, udpSeal_again a b hL, ← hm0, ← ht]
  have f1 := fun w => udp_Seal a b s w ⟨a0, a1⟩ ⟨b0, hb1⟩ (by omega)
  rw [ht0, ← hm0, ← ht] at f1
  have f2 := fun w => udp_Check a b t w ⟨a0, a1⟩ ⟨b0, hb1⟩ (by omega)
  rw [o1] at f2
  have f5 := fun w => udp_Seal a b t w ⟨a0, a1⟩ ⟨b0, hb1⟩ (by omega)
  rw [o2] at f5
  have g6 : ∀ k, k < 8 * s.size → udpOk a b (S (flip (L t) k)) = decide (get16 (flip (L t) k) 6 = 0) := fun k hk => udpOk_flip a b t k (by omega) (by omega) (by rw [show (6 : Int) = ((6 : Nat) : Int) from rfl, get16_nat (by rw [L_length]; omega)]; omega) o1
  have G6 := hide g6
  clear g6
  have F1 := hide f1; have F2 := hide f2; have F5 := hide f5
  clear f1 f2 f5 o1 o2 ht0 ht hLt hg6 hm hm0 hL
  have i1 : (6 : Int) ≤ (s.size : Int) := by omega
  have i2 : (8 : Int) ≤ (s.size : Int) := by omega
  go_enter Try.func6, Try.ntmps6
  have d0 := Cells.new w #[.int .u32 a, .int .u32 b] 40
  go_wp2_with fail
  (with_reducible refine (F1.out _).mono ?_)
  rintro e w1 ⟨rfl, b1⟩
  replace d0 := Cells.below b1 d0
  replace b1 : Below w.heap.size w w1 := by (refine bstep ?_ b1); (repeat' (first | exact Below.refl _ _ | with_reducible refine bstep ?_ (fresh_below _ _) | with_reducible refine Below.drew ?_ | with_reducible refine Below.setCell ?_ (by first | exact Nat.le_refl _ | assumption | omega) _))
  have z1 : w.heap.size ≤ w1.heap.size := b1.size
  go_wp2_with fail
  have SK := hide (fun (zX zY : World) (zh : (Below w.heap.size w zX ∧ zX.cell? ⟨w.heap.size, 0, none⟩ = some (.int .u32 a) ∧ zX.cell? ⟨w.heap.size, 1, none⟩ = some (.int .u32 b) ∧ True)) (zb : Below zX.heap.size zX zY) => (show (Below w.heap.size w zY ∧ zY.cell? ⟨w.heap.size, 0, none⟩ = some (.int .u32 a) ∧ zY.cell? ⟨w.heap.size, 1, none⟩ = some (.int .u32 b) ∧ True) from ⟨bstep zh.1 zb, cellAt zb zh.2.1, cellAt zb zh.2.2.1, trivial⟩))
  have FS := hide (fun (zX : World) (zh : (Below w.heap.size w zX ∧ zX.cell? ⟨w.heap.size, 0, none⟩ = some (.int .u32 a) ∧ zX.cell? ⟨w.heap.size, 1, none⟩ = some (.int .u32 b) ∧ True)) => zh.1)
  have GS := hide (fun (zX : World) (zh : (Below w.heap.size w zX ∧ zX.cell? ⟨w.heap.size, 0, none⟩ = some (.int .u32 a) ∧ zX.cell? ⟨w.heap.size, 1, none⟩ = some (.int .u32 b) ∧ True)) => zh)
  have hS0 : (Below w.heap.size w w1 ∧ w1.cell? ⟨w.heap.size, 0, none⟩ = some (.int .u32 a) ∧ w1.cell? ⟨w.heap.size, 1, none⟩ = some (.int .u32 b) ∧ True) := ⟨(by (repeat' (first | exact b1 | exact Below.refl _ _ | with_reducible refine bstep ?_ (fresh_below _ _) | with_reducible refine Below.drew ?_ | with_reducible refine Below.setCell ?_ (by first | exact Nat.le_refl _ | assumption | omega) _))), d0.at_ 0, d0.at_ 1, trivial⟩
  go_region_held3 (fun w' => (Below w.heap.size w w' ∧ w'.cell? ⟨w.heap.size, 0, none⟩ = some (.int .u32 a) ∧ w'.cell? ⟨w.heap.size, 1, none⟩ = some (.int .u32 b) ∧ True)) (first | assumption | exact SK.out _ _ hS0 (Below.refl _ _).drew | exact SK.out _ _ (by assumption) (fresh_below _ _) | (refine SK.out _ _ ?_ (by assumption); assumption))
    (first | (go_at_call 13; (with_reducible refine (F2.out _).mono ?_); rintro e wq ⟨rfl, bq⟩))
  obtain ⟨b2, x0, x1, _⟩ := GS.out wq (by assumption)
  clear SK FS GS hS0
  obtain ⟨cap, W, hrun, hB0, hbel⟩ := conv_string wq t
  have y0 := cellAt hbel x0
  have y1 := cellAt hbel x1
  obtain ⟨k, hk⟩ : ∃ k : Nat, c % (8 * (s.size : Int)) = k :=
    ⟨(c % (8 * (s.size : Int))).toNat, (Int.toNat_of_nonneg (Int.emod_nonneg _ (by omega))).symm⟩
  have hkb : (k : Int) < 8 * s.size := by
    have := Int.emod_lt_of_pos c (show 0 < 8 * (s.size : Int) by omega)
    omega
  obtain ⟨x, hx⟩ : ∃ x, x = at_ (L t) (k / 8) := ⟨_, rfl⟩
  have hc := hB0.cell (j := k / 8) (by rw [L_length]; omega)
  have hf := hB0.frozen (j := k / 8) (by rw [L_length]; omega)
  rw [← hx] at hc
  have hxb : 0 ≤ x ∧ x ≤ 255 := by rw [hx]; exact at_bd _ _
  have HB := hide hB0; have HX := hide hx
  clear hB0 hx
  have j1 : (0 : Int) ≤ (k : Int) / 8 := by omega
  have j2 : (k : Int) / 8 < (s.size : Int) := by omega
  have j3 : ((k : Int) / 8).toNat = k / 8 := by omega
  have j4 : (0 : Int) ≤ (k : Int) % 8 := by omega
  have j5 : (k : Int) % 8 < 8 := by omega
  rw [← hk] at hkb j1 j2 j3 j4 j5
  go_wp2_with fail
  go_region
  have hxf : bits .xor .u8 x (2 ^ (k % 8) % 256) = ((byt (fl x (k % 8))).toNat : Int) := by
    rw [xor_fl hxb (by omega), byt_int _ (fl_bd hxb (by omega)).1]
    have := fl_bd hxb (show k % 8 < 8 by omega)
    omega
  rw [hxf]
  have hB2 : Bytes (W.setCell ⟨wq.heap.size, k / 8, none⟩ (.int .u8 ((byt (fl x (k % 8))).toNat : Int))).drew wq.heap.size (flip (L t) k) := by
    have := HB.out.set_ (k := k / 8) (x := byt (fl x (k % 8))) (by rw [L_length]; omega)
    rw [HX.out] at this ⊢
    exact this
  have nb : w.heap.size < wq.heap.size := World.block_lt_of_cell? wq _ x0
  have r0 : (W.setCell ⟨wq.heap.size, k / 8, none⟩ (.int .u8 ((byt (fl x (k % 8))).toNat : Int))).drew.cell? ⟨w.heap.size, 0, none⟩ = some (.int .u32 a) := by
    exact (World.cell?_setCell_far _ _ _ _ (show wq.heap.size ≠ w.heap.size by omega)).trans y0
  have r1 : (W.setCell ⟨wq.heap.size, k / 8, none⟩ (.int .u8 ((byt (fl x (k % 8))).toNat : Int))).drew.cell? ⟨w.heap.size, 1, none⟩ = some (.int .u32 b) := by
    exact (World.cell?_setCell_far _ _ _ _ (show wq.heap.size ≠ w.heap.size by omega)).trans y1
  have b3 : Below w.heap.size w (W.setCell ⟨wq.heap.size, k / 8, none⟩ (.int .u8 ((byt (fl x (k % 8))).toNat : Int))).drew :=
    ((bstep b2 hbel).setCell (p := ⟨wq.heap.size, k / 8, none⟩) (Nat.le_of_lt nb) _).drew
  generalize (W.setCell ⟨wq.heap.size, k / 8, none⟩ (.int .u8 ((byt (fl x (k % 8))).toNat : Int))).drew = W2 at *
  have hcv := conv_bytes W2 wq.heap.size cap (flip (L t) k) hB2
  rw [flip_length, L_length, hz] at hcv
  obtain ⟨u, hu⟩ : ∃ u, u = S (flip (L t) k) := ⟨_, rfl⟩
  have zu : u.size = s.size := by rw [hu, S_size, flip_length, L_length, hz]
  have hLu : L u = flip (L t) k := by rw [hu, L_S]
  have f3 := fun w => udp_Check a b u w ⟨a0, a1⟩ ⟨b0, hb1⟩ (by omega)
  have hok : udpOk a b u = decide (get16 (L u) 6 = 0) := by
    rw [hu, L_S]; exact G6.out k (by omega)
  have hq : ((u.extract 6 8).toList == [0, 0]) = decide (get16 (L u) 6 = 0) := by
    rw [str_toList, L_extract, Bool.eq_iff_iff, beq_iff_eq, decide_eq_true_iff]
    rw [show (6 : Int) = ((6 : Nat) : Int) from rfl, get16_nat (by rw [L_length]; omega)]
    exact two_zero (by rw [L_length]; omega)
  rw [hok] at f3
  rw [← hu] at hcv
  have hu6 : (6 : Int) ≤ (u.size : Int) := by omega
  have hu8 : (8 : Int) ≤ (u.size : Int) := by omega
  clear hB2 hxf HB HX hc hf hrun hu hLu hok hxb
  by_cases hv : get16 (L u) 6 = 0
  all_goals
    simp only [hv, decide_true, decide_false] at f3 hq
    have F3 := hide f3
    clear f3 hv
    go_wp2_with fail
    have SK := hide (fun (zX zY : World) (zh : (Below w.heap.size w zX ∧ zX.cell? ⟨w.heap.size, 0, none⟩ = some (.int .u32 a) ∧ zX.cell? ⟨w.heap.size, 1, none⟩ = some (.int .u32 b) ∧ True)) (zb : Below zX.heap.size zX zY) => (show (Below w.heap.size w zY ∧ zY.cell? ⟨w.heap.size, 0, none⟩ = some (.int .u32 a) ∧ zY.cell? ⟨w.heap.size, 1, none⟩ = some (.int .u32 b) ∧ True) from ⟨bstep zh.1 zb, cellAt zb zh.2.1, cellAt zb zh.2.2.1, trivial⟩))
    have FS := hide (fun (zX : World) (zh : (Below w.heap.size w zX ∧ zX.cell? ⟨w.heap.size, 0, none⟩ = some (.int .u32 a) ∧ zX.cell? ⟨w.heap.size, 1, none⟩ = some (.int .u32 b) ∧ True)) => zh.1)
    have GS := hide (fun (zX : World) (zh : (Below w.heap.size w zX ∧ zX.cell? ⟨w.heap.size, 0, none⟩ = some (.int .u32 a) ∧ zX.cell? ⟨w.heap.size, 1, none⟩ = some (.int .u32 b) ∧ True)) => zh)
    have hS0 : (Below w.heap.size w W2 ∧ W2.cell? ⟨w.heap.size, 0, none⟩ = some (.int .u32 a) ∧ W2.cell? ⟨w.heap.size, 1, none⟩ = some (.int .u32 b) ∧ True) := ⟨(by (repeat' (first | exact b3 | exact Below.refl _ _ | with_reducible refine bstep ?_ (fresh_below _ _) | with_reducible refine Below.drew ?_ | with_reducible refine Below.setCell ?_ (by first | exact Nat.le_refl _ | assumption | omega) _))), r0, r1, trivial⟩
    go_region_held3 (fun w' => (Below w.heap.size w w' ∧ w'.cell? ⟨w.heap.size, 0, none⟩ = some (.int .u32 a) ∧ w'.cell? ⟨w.heap.size, 1, none⟩ = some (.int .u32 b) ∧ True)) (first | assumption | exact SK.out _ _ hS0 (Below.refl _ _).drew | exact SK.out _ _ (by assumption) (fresh_below _ _) | (refine SK.out _ _ ?_ (by assumption); assumption))
      (first | (go_at_call 13; (with_reducible refine (F3.out _).mono ?_); rintro e wq ⟨rfl, bq⟩) | (go_at_call 15; (with_reducible refine (F5.out _).mono ?_); rintro e wq ⟨rfl, bq⟩) | (go_at_call 8; (with_reducible refine (sent _).mono ?_); rintro e wq ⟨rfl, bq⟩))
    go_wp2
    go_ret
    exact ⟨rfl, (by first | exact FS.out _ (by assumption) | exact bstep (FS.out _ (by assumption)) (fresh_below _ _) | exact bstep (bstep (FS.out _ (by assumption)) (fresh_below _ _)) (fresh_below _ _))⟩

theorem UdpSeal_walk (s : ByteArray) (a b c : Int) (w : World) (hs : s.size ≤ 140737488351232) (ha : 0 ≤ a ∧ a ≤ 4294967295) (hb : 0 ≤ b ∧ b ≤ 4294967295) (hc : 0 ≤ c ∧ c ≤ 65535) :
    Calls Try.prog 6 #[.string s, .agg #[.int .u32 a, .int .u32 b], .int .u16 c] w (Ret (.bool true) w) := by
  by_cases h : s.size < 8 ∨ 600 < s.size
  · exact UdpSeal_out s a b c w hs ha hb hc h
  · exact UdpSeal_in s a b c w (by omega) (by omega) ha hb hc
end Go.Proofs.Ythmedjlecikbiaa
