/- TcpSeal walked: it returns true and leaves what lay there as it lay. -/
import Derived.Test.YtlmpoikjjidgiaaLaw06
import Derived.Test.YtlmpoikjjidgiaaLaw06x
import Derived.BigRegion
set_option linter.unusedVariables false
namespace Go.Proofs.Ytlmpoikjjidgiaa
open Go.RowKit
attribute [local go_sem] Oper.semAt_some

set_option maxHeartbeats 2000000 in
theorem TcpSeal_out (s : ByteArray) (a b c e : Int) (w : World) (hs : s.size ≤ 140737488351232) (ha : 0 ≤ a ∧ a ≤ 4294967295) (hb : 0 ≤ b ∧ b ≤ 4294967295) (hc : 0 ≤ c ∧ c ≤ 65535) (he : 0 ≤ e ∧ e ≤ 65535) (hg : s.size < 20 ∨ 600 < s.size) :
    Calls Try.prog 7 #[.string s, .agg #[.int .u32 a, .int .u32 b], .agg #[.int .u16 c, .int .u16 e]] w (Ret (.bool true) w) := by
  by_cases g : 600 < s.size
  · have g8 : ¬ s.size < 20 := by omega
    clear hg
    go_enter Try.func7, Try.ntmps7
    go_wp2_with fail
    go_wp2_with fail
    (with_reducible refine (begun _).mono ?_)
    rintro e w1 ⟨rfl, b1⟩
    replace b1 : Below w.heap.size w w1 := by (refine bstep ?_ b1); (repeat' (first | with_reducible exact Below.refl _ _ | with_reducible refine Below.setCell ?_ (by first | exact Nat.le_refl _ | (dsimp only; omega)) _ | with_reducible refine bstep ?_ (fresh_below _ _) | with_reducible refine Below.drew ?_))
    have z1 : w.heap.size ≤ w1.heap.size := b1.size
    go_wp2_with fail
    go_ret
    exact ⟨rfl, (by (repeat' (first | with_reducible exact b1 | with_reducible exact Below.refl _ _ | with_reducible refine Below.setCell ?_ (by first | exact Nat.le_refl _ | (dsimp only; omega)) _ | with_reducible refine bstep ?_ (fresh_below _ _) | with_reducible refine Below.drew ?_)))⟩
  · have g8 : s.size < 20 := by omega
    have c1 := fun w => t_Seal a b s w ha hb hs
    have c2 := fun w => t_Check a b s w ha hb hs
    have e1 : S (tcpSeal a b (L s)) = s := by unfold tcpSeal; rw [L_length, if_pos g8, S_L]
    have e2 : tcpOk a b s = false := by unfold tcpOk; simp; omega
    rw [e1] at c1
    rw [e2] at c2
    have C1 := hide c1; have C2 := hide c2
    clear c1 c2 e1 e2 hg
    go_enter Try.func7, Try.ntmps7
    have d0 := Cells.new w #[.int .u32 a, .int .u32 b] 43
    go_wp2_with fail
    go_wp2_with fail
    (with_reducible refine (C1.out _).mono ?_)
    rintro e w1 ⟨rfl, b1⟩
    replace d0 := Cells.up d0 (by (repeat' (first | with_reducible exact Below.refl _ _ | with_reducible refine bstep ?_ (fresh_below _ _) | with_reducible refine Below.drew ?_))) b1
    replace b1 : Below w.heap.size w w1 := by (refine bstep ?_ b1); (repeat' (first | with_reducible exact Below.refl _ _ | with_reducible refine Below.setCell ?_ (by first | exact Nat.le_refl _ | (dsimp only; omega)) _ | with_reducible refine bstep ?_ (fresh_below _ _) | with_reducible refine Below.drew ?_))
    have z1 : w.heap.size ≤ w1.heap.size := b1.size
    have xd0_0 : w1.cell? ⟨w.heap.size, 0, none⟩ = some (.int .u32 a) := d0.at_ 0
    have xd0_1 : w1.cell? ⟨w.heap.size, 1, none⟩ = some (.int .u32 b) := d0.at_ 1
    go_wp2_with fail
    (with_reducible refine (C2.out _).mono ?_)
    rintro e w2 ⟨rfl, b2⟩
    replace b2 : Below w.heap.size w w2 := by (refine bstep ?_ b2); (repeat' (first | with_reducible exact b1 | with_reducible exact Below.refl _ _ | with_reducible refine Below.setCell ?_ (by first | exact Nat.le_refl _ | (dsimp only; omega)) _ | with_reducible refine bstep ?_ (fresh_below _ _) | with_reducible refine Below.drew ?_))
    have z2 : w.heap.size ≤ w2.heap.size := b2.size
    go_wp2_with fail
    (with_reducible refine (begun _).mono ?_)
    rintro e w3 ⟨rfl, b3⟩
    replace b3 : Below w.heap.size w w3 := by (refine bstep ?_ b3); (repeat' (first | with_reducible exact b2 | with_reducible exact Below.refl _ _ | with_reducible refine Below.setCell ?_ (by first | exact Nat.le_refl _ | (dsimp only; omega)) _ | with_reducible refine bstep ?_ (fresh_below _ _) | with_reducible refine Below.drew ?_))
    have z3 : w.heap.size ≤ w3.heap.size := b3.size
    go_wp2_with fail
    go_ret
    exact ⟨rfl, (by (repeat' (first | with_reducible exact b3 | with_reducible exact Below.refl _ _ | with_reducible refine Below.setCell ?_ (by first | exact Nat.le_refl _ | (dsimp only; omega)) _ | with_reducible refine bstep ?_ (fresh_below _ _) | with_reducible refine Below.drew ?_)))⟩

set_option maxHeartbeats 2000000 in
theorem TcpSeal_in (s : ByteArray) (a b c e : Int) (w : World) (h8 : 20 ≤ s.size) (h6 : s.size ≤ 600) (ha : 0 ≤ a ∧ a ≤ 4294967295) (hb : 0 ≤ b ∧ b ≤ 4294967295) (hc : 0 ≤ c ∧ c ≤ 65535) (he : 0 ≤ e ∧ e ≤ 65535) :
    Calls Try.prog 7 #[.string s, .agg #[.int .u32 a, .int .u32 b], .agg #[.int .u16 c, .int .u16 e]] w (Ret (.bool true) w) := by
  obtain ⟨a0, a1⟩ := ha
  obtain ⟨b0, hb1⟩ := hb
  obtain ⟨c0, c1⟩ := hc
  have hL : 20 ≤ (L s).length := by rw [L_length]; exact h8
  have hm := tcpSum_bd a b (L s)
  have ht0 : S (tcpSeal a b (L s)) = S (lay (L s) 16 (tcpSum a b (L s))) := by rw [tcpSeal_lay a b hL]
  obtain ⟨m, hm0⟩ : ∃ m, m = tcpSum a b (L s) := ⟨_, rfl⟩
  obtain ⟨t, ht⟩ : ∃ t, t = S (lay (L s) 16 m) := ⟨_, rfl⟩
  have hLt : L t = lay (L s) 16 m := by rw [ht, L_S]
  have hz : t.size = s.size := by rw [ht, S_size, lay_length (by omega), L_length]
  have e1 : t.extract 0 16 = s.extract 0 16 := by apply L_inj; rw [L_to, L_to, hLt, lay_take (by omega)]
  have e2 : t.extract 18 s.size = s.extract 18 s.size := by
    apply L_inj
    rw [L_from]
    conv => lhs; rw [← hz]
    rw [L_from, hLt, lay_drop (by omega)]
  have o1 : tcpOk a b t = true := by rw [ht, hm0]; exact tcpOk_seal a b hL
  have o2 : S (tcpSeal a b (L t)) = t := by rw [hLt, hm0, tcpSeal_again a b hL, ← hm0, ← ht]
  have f1 := fun w => t_Seal a b s w ⟨a0, a1⟩ ⟨b0, hb1⟩ (by omega)
  rw [ht0, ← hm0, ← ht] at f1
  have f2 := fun w => t_Check a b t w ⟨a0, a1⟩ ⟨b0, hb1⟩ (by omega)
  rw [o1] at f2
  have f5 := fun w => t_Seal a b t w ⟨a0, a1⟩ ⟨b0, hb1⟩ (by omega)
  rw [o2] at f5
  have g6 : ∀ k, k < 8 * s.size → tcpOk a b (S (flip (L t) k)) = false := fun k hk => tcpOk_flip a b t k (by omega) o1
  obtain ⟨jj, hjj⟩ : ∃ k : Nat, e % 32 = k := ⟨(e % 32).toNat, by omega⟩
  have hjb : jj < 32 := by omega
  obtain ⟨va, xa, ba, da⟩ := xor_tot a jj ⟨a0, a1⟩ hjb
  obtain ⟨vb, xb, bb, db⟩ := xor_tot b jj ⟨b0, hb1⟩ hjb
  have f3a := fun w => t_Check va b t w ba ⟨b0, hb1⟩ (by omega)
  rw [tcpOk_ends a b va b t ⟨a0, a1⟩ ⟨b0, hb1⟩ ba ⟨b0, hb1⟩ o1 (by omega)] at f3a
  have f3b := fun w => t_Check a vb t w ⟨a0, a1⟩ bb (by omega)
  rw [tcpOk_ends a b a vb t ⟨a0, a1⟩ ⟨b0, hb1⟩ ⟨a0, a1⟩ bb o1 (by omega)] at f3b
  have G6 := hide g6; have FA := hide f3a; have FB := hide f3b
  clear g6 f3a f3b da db
  have F1 := hide f1; have F2 := hide f2; have F5 := hide f5
  clear f1 f2 f5 o1 o2 ht0 ht hLt hm hm0 hL
  have i1 : (16 : Int) ≤ (s.size : Int) := by omega
  have i2 : (18 : Int) ≤ (s.size : Int) := by omega
  go_enter Try.func7, Try.ntmps7
  have d0 := Cells.new w #[.int .u32 a, .int .u32 b] 43
  have d1 := Cells.new (w.alloc (.cells #[.int .u32 a, .int .u32 b] 43)) #[.int .u16 c, .int .u16 e] 44
  rw [show (w.alloc (.cells #[.int .u32 a, .int .u32 b] 43)).heap.size = w.heap.size + 1 from by simp] at d1
  replace d0 := Cells.alloc d0 (.cells #[.int .u16 c, .int .u16 e] 44)
  go_wp2_with fail
  (with_reducible refine (F1.out _).mono ?_)
  rintro e w1 ⟨rfl, b1⟩
  replace d0 := Cells.up d0 (by (repeat' (first | with_reducible exact Below.refl _ _ | with_reducible refine bstep ?_ (fresh_below _ _) | with_reducible refine Below.drew ?_))) b1
  replace d1 := Cells.up d1 (by (repeat' (first | with_reducible exact Below.refl _ _ | with_reducible refine bstep ?_ (fresh_below _ _) | with_reducible refine Below.drew ?_))) b1
  replace b1 : Below w.heap.size w w1 := by (refine bstep ?_ b1); (repeat' (first | with_reducible exact Below.refl _ _ | with_reducible refine Below.setCell ?_ (by first | exact Nat.le_refl _ | (dsimp only; omega)) _ | with_reducible refine bstep ?_ (fresh_below _ _) | with_reducible refine Below.drew ?_))
  have z1 : w.heap.size ≤ w1.heap.size := b1.size
  go_wp2_with fail
  have SK := hide (fun (zX zY : World) (zh : (Below w.heap.size w zX ∧ zX.cell? ⟨w.heap.size, 0, none⟩ = some (.int .u32 a) ∧ zX.cell? ⟨w.heap.size, 1, none⟩ = some (.int .u32 b) ∧ zX.cell? ⟨w.heap.size + 1, 0, none⟩ = some (.int .u16 c) ∧ zX.cell? ⟨w.heap.size + 1, 1, none⟩ = some (.int .u16 e) ∧ True)) (zb : Below zX.heap.size zX zY) => (show (Below w.heap.size w zY ∧ zY.cell? ⟨w.heap.size, 0, none⟩ = some (.int .u32 a) ∧ zY.cell? ⟨w.heap.size, 1, none⟩ = some (.int .u32 b) ∧ zY.cell? ⟨w.heap.size + 1, 0, none⟩ = some (.int .u16 c) ∧ zY.cell? ⟨w.heap.size + 1, 1, none⟩ = some (.int .u16 e) ∧ True) from ⟨bstep zh.1 zb, cellAt zb zh.2.1, cellAt zb zh.2.2.1, cellAt zb zh.2.2.2.1, cellAt zb zh.2.2.2.2.1, trivial⟩))
  have FS := hide (fun (zX : World) (zh : (Below w.heap.size w zX ∧ zX.cell? ⟨w.heap.size, 0, none⟩ = some (.int .u32 a) ∧ zX.cell? ⟨w.heap.size, 1, none⟩ = some (.int .u32 b) ∧ zX.cell? ⟨w.heap.size + 1, 0, none⟩ = some (.int .u16 c) ∧ zX.cell? ⟨w.heap.size + 1, 1, none⟩ = some (.int .u16 e) ∧ True)) => zh.1)
  have GS := hide (fun (zX : World) (zh : (Below w.heap.size w zX ∧ zX.cell? ⟨w.heap.size, 0, none⟩ = some (.int .u32 a) ∧ zX.cell? ⟨w.heap.size, 1, none⟩ = some (.int .u32 b) ∧ zX.cell? ⟨w.heap.size + 1, 0, none⟩ = some (.int .u16 c) ∧ zX.cell? ⟨w.heap.size + 1, 1, none⟩ = some (.int .u16 e) ∧ True)) => zh)
  have hS0 : (Below w.heap.size w w1 ∧ w1.cell? ⟨w.heap.size, 0, none⟩ = some (.int .u32 a) ∧ w1.cell? ⟨w.heap.size, 1, none⟩ = some (.int .u32 b) ∧ w1.cell? ⟨w.heap.size + 1, 0, none⟩ = some (.int .u16 c) ∧ w1.cell? ⟨w.heap.size + 1, 1, none⟩ = some (.int .u16 e) ∧ True) := ⟨(by (repeat' (first | with_reducible exact b1 | with_reducible exact Below.refl _ _ | with_reducible refine Below.setCell ?_ (by first | exact Nat.le_refl _ | (dsimp only; omega)) _ | with_reducible refine bstep ?_ (fresh_below _ _) | with_reducible refine Below.drew ?_))), d0.at_ 0, d0.at_ 1, d1.at_ 0, d1.at_ 1, trivial⟩
  go_region_held3 (fun w' => (Below w.heap.size w w' ∧ w'.cell? ⟨w.heap.size, 0, none⟩ = some (.int .u32 a) ∧ w'.cell? ⟨w.heap.size, 1, none⟩ = some (.int .u32 b) ∧ w'.cell? ⟨w.heap.size + 1, 0, none⟩ = some (.int .u16 c) ∧ w'.cell? ⟨w.heap.size + 1, 1, none⟩ = some (.int .u16 e) ∧ True)) (first | assumption | exact SK.out _ _ hS0 (Below.refl _ _).drew | exact SK.out _ _ hS0 (fresh_below _ _).drew | exact SK.out _ _ (by assumption) (fresh_below _ _) | (refine SK.out _ _ ?_ (by assumption); assumption))
    (first | (go_at_call 18; (with_reducible refine (F2.out _).mono ?_); rintro e wq ⟨rfl, bq⟩))
  obtain ⟨b2, x0, x1, x2, x3, _⟩ := GS.out wq (by assumption)
  clear SK FS GS hS0
  obtain ⟨cap, W, hrun, hB0, hbel⟩ := conv_string wq t
  have y0 := cellAt hbel x0
  have y1 := cellAt hbel x1
  have y2 := cellAt hbel x2
  have y3 := cellAt hbel x3
  obtain ⟨k, hk⟩ : ∃ k : Nat, c % (8 * (s.size : Int)) = k :=
    ⟨(c % (8 * (s.size : Int))).toNat, (Int.toNat_of_nonneg (Int.emod_nonneg _ (by omega))).symm⟩
  have hkb : (k : Int) < 8 * s.size := by
    have := Int.emod_lt_of_pos c (show 0 < 8 * (s.size : Int) by omega)
    omega
  obtain ⟨x, hx⟩ : ∃ x, x = at_ (L t) (k / 8) := ⟨_, rfl⟩
  have hc := hB0.cell (j := k / 8) (by rw [L_length]; omega)
  have hf := hB0.frozen (j := k / 8) (by rw [L_length]; omega)
  rw [← hx] at hc
  have hxb : 0 ≤ x ∧ x ≤ 255 := by rw [hx]; exact at_bd _ _
  have HB := hide hB0; have HX := hide hx
  clear hB0 hx
  have j1 : (0 : Int) ≤ (k : Int) / 8 := by omega
  have j2 : (k : Int) / 8 < (s.size : Int) := by omega
  have j3 : ((k : Int) / 8).toNat = k / 8 := by omega
  have j4 : (0 : Int) ≤ (k : Int) % 8 := by omega
  have j5 : (k : Int) % 8 < 8 := by omega
  rw [← hk] at hkb j1 j2 j3 j4 j5
  go_wp2_with fail
  go_region
  have hxf : bits .xor .u8 x (2 ^ (k % 8) % 256) = ((byt (fl x (k % 8))).toNat : Int) := by
    rw [xor_fl hxb (by omega), byt_int _ (fl_bd hxb (by omega)).1]
    have := fl_bd hxb (show k % 8 < 8 by omega)
    omega
  rw [hxf]
  have hB2 : Bytes (W.setCell ⟨wq.heap.size, k / 8, none⟩ (.int .u8 ((byt (fl x (k % 8))).toNat : Int))).drew wq.heap.size (flip (L t) k) := by
    have := HB.out.set_ (k := k / 8) (x := byt (fl x (k % 8))) (by rw [L_length]; omega)
    rw [HX.out] at this ⊢
    exact this
  have nb : w.heap.size < wq.heap.size := World.block_lt_of_cell? wq _ x0
  have r0 : (W.setCell ⟨wq.heap.size, k / 8, none⟩ (.int .u8 ((byt (fl x (k % 8))).toNat : Int))).drew.cell? ⟨w.heap.size, 0, none⟩ = some (.int .u32 a) := by
    exact (World.cell?_setCell_far _ _ _ _ (show wq.heap.size ≠ w.heap.size by omega)).trans y0
  have r1 : (W.setCell ⟨wq.heap.size, k / 8, none⟩ (.int .u8 ((byt (fl x (k % 8))).toNat : Int))).drew.cell? ⟨w.heap.size, 1, none⟩ = some (.int .u32 b) := by
    exact (World.cell?_setCell_far _ _ _ _ (show wq.heap.size ≠ w.heap.size by omega)).trans y1
  have nb2 : w.heap.size + 1 < wq.heap.size := World.block_lt_of_cell? wq _ x2
  have r2 : (W.setCell ⟨wq.heap.size, k / 8, none⟩ (.int .u8 ((byt (fl x (k % 8))).toNat : Int))).drew.cell? ⟨w.heap.size + 1, 0, none⟩ = some (.int .u16 c) := by
    exact (World.cell?_setCell_far _ _ _ _ (show wq.heap.size ≠ w.heap.size + 1 by omega)).trans y2
  have r3 : (W.setCell ⟨wq.heap.size, k / 8, none⟩ (.int .u8 ((byt (fl x (k % 8))).toNat : Int))).drew.cell? ⟨w.heap.size + 1, 1, none⟩ = some (.int .u16 e) := by
    exact (World.cell?_setCell_far _ _ _ _ (show wq.heap.size ≠ w.heap.size + 1 by omega)).trans y3
  have b3 : Below w.heap.size w (W.setCell ⟨wq.heap.size, k / 8, none⟩ (.int .u8 ((byt (fl x (k % 8))).toNat : Int))).drew :=
    ((bstep b2 hbel).setCell (p := ⟨wq.heap.size, k / 8, none⟩) (Nat.le_of_lt nb) _).drew
  generalize (W.setCell ⟨wq.heap.size, k / 8, none⟩ (.int .u8 ((byt (fl x (k % 8))).toNat : Int))).drew = W2 at *
  have hcv := conv_bytes W2 wq.heap.size cap (flip (L t) k) hB2
  rw [flip_length, L_length, hz] at hcv
  obtain ⟨u, hu⟩ : ∃ u, u = S (flip (L t) k) := ⟨_, rfl⟩
  have zu : u.size = s.size := by rw [hu, S_size, flip_length, L_length, hz]
  have hLu : L u = flip (L t) k := by rw [hu, L_S]
  have f3 := fun w => t_Check a b u w ⟨a0, a1⟩ ⟨b0, hb1⟩ (by omega)
  rw [show tcpOk a b u = false from by rw [hu]; exact G6.out k (by omega)] at f3
  rw [← hu] at hcv
  clear hB2 hxf HB HX hc hf hrun hu hLu hxb
  have F3 := hide f3
  clear f3
  go_wp2_with fail
  (with_reducible refine (F3.out _).mono ?_)
  rintro e3 w3 ⟨rfl, b4⟩
  have q0 := cellAt b4 r0
  have q1 := cellAt b4 r1
  have q2 := cellAt b4 r2
  have q3 := cellAt b4 r3
  replace b4 : Below w.heap.size w w3 := bstep b3 b4
  go_wp2_with fail
  (with_reducible refine (FA.out _).mono ?_)
  rintro e4 w4 ⟨rfl, b5⟩
  replace q0 := cellAt b5 q0
  replace q1 := cellAt b5 q1
  replace b5 : Below w.heap.size w w4 := bstep b4 b5
  go_wp2_with fail
  (with_reducible refine (FB.out _).mono ?_)
  rintro e5 w5 ⟨rfl, b6⟩
  replace q0 := cellAt b6 q0
  replace q1 := cellAt b6 q1
  replace b6 : Below w.heap.size w w5 := bstep b5 b6
  go_wp2_with fail
  (with_reducible refine (F5.out _).mono ?_)
  rintro e6 w6 ⟨rfl, b7⟩
  replace b7 : Below w.heap.size w w6 := bstep b6 b7
  go_wp2_with fail
  (with_reducible refine (begun _).mono ?_)
  rintro e7 w7 ⟨rfl, b8⟩
  replace b8 : Below w.heap.size w w7 := bstep b7 b8
  go_wp2_with fail
  go_ret
  exact ⟨rfl, b8⟩

theorem TcpSeal_walk (s : ByteArray) (a b c e : Int) (w : World) (hs : s.size ≤ 140737488351232) (ha : 0 ≤ a ∧ a ≤ 4294967295) (hb : 0 ≤ b ∧ b ≤ 4294967295) (hc : 0 ≤ c ∧ c ≤ 65535) (he : 0 ≤ e ∧ e ≤ 65535) :
    Calls Try.prog 7 #[.string s, .agg #[.int .u32 a, .int .u32 b], .agg #[.int .u16 c, .int .u16 e]] w (Ret (.bool true) w) := by
  by_cases h : s.size < 20 ∨ 600 < s.size
  · exact TcpSeal_out s a b c e w hs ha hb hc he h
  · exact TcpSeal_in s a b c e w (by omega) (by omega) ha hb hc he
end Go.Proofs.Ytlmpoikjjidgiaa
