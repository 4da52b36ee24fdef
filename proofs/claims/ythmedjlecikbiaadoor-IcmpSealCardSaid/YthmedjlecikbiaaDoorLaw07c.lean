/- IcmpSeal walked: it returns true and leaves what lay there as it lay. -/
import Derived.Test.YthmedjlecikbiaaDoorIcmp3
import Derived.Test.YthmedjlecikbiaaDoorBytes
import Derived.BigRegion
set_option linter.unusedVariables false
namespace Go.Proofs.YthmedjlecikbiaaDoor
open Go.RowKit Go.Maps
attribute [local go_sem] Oper.semAt_some

theorem icmp_ok {l : List UInt8} (h : 8 ≤ l.length) : holds [lay l 2 (icmpSum l)] = true :=
  lay_holds [] (l := l) (k := 2) (by omega) (by omega) (Or.inl rfl)
theorem icmp_flip {l : List UInt8} (k : Nat) (hk : k < 8 * l.length) (h : holds [l] = true) : holds [flip l k] = false := holds_flip [] l k hk h
theorem icmpSeal_again {l : List UInt8} (h : 8 ≤ l.length) : icmpSeal (lay l 2 (icmpSum l)) = lay l 2 (icmpSum l) := by
  have hz := lay_length (l := l) (k := 2) (n := icmpSum l) (by omega)
  unfold icmpSeal
  rw [if_neg (by omega)]
  have e : icmpSum (lay l 2 (icmpSum l)) = icmpSum l := by
    show sumL [lay (lay l 2 (icmpSum l)) 2 0] = _
    rw [lay_lay (by omega)]; rfl
  rw [e, lay_lay (by omega)]

set_option maxHeartbeats 2000000 in
theorem IcmpSeal_out (s : ByteArray) (c : Int) (w : World) (K0 : Kinds w) (hs : s.size ≤ 140737488351232) (hc : 0 ≤ c ∧ c ≤ 65535) (hg : s.size < 8 ∨ 600 < s.size) :
    Calls Tryd.prog 4 #[.string s, .int .u16 c] w (Ret (.bool true) w) := by
  have c0 := fun w k => echoed w k
  have KK := hide K0; have C0 := hide c0
  clear K0 c0
  by_cases g : 600 < s.size
  · have g8 : ¬ s.size < 8 := by omega
    clear hg
    go_enter Tryd.func4, Tryd.ntmps4
    go_wp2_with fail
    (with_reducible refine (C0.out _ (KK.out.below (by (repeat' (first | with_reducible exact Below.refl _ _ | with_reducible refine Below.setCell ?_ (by first | exact Nat.le_refl _ | (dsimp only; omega)) _ | with_reducible refine bstep ?_ (fresh_below _ _) | with_reducible refine Below.drew ?_))))).mono ?_)
    rintro e w1 ⟨rfl, b1⟩
    replace b1 : Below w.heap.size w w1 := by (refine bstep ?_ b1); (repeat' (first | with_reducible exact Below.refl _ _ | with_reducible refine Below.setCell ?_ (by first | exact Nat.le_refl _ | (dsimp only; omega)) _ | with_reducible refine bstep ?_ (fresh_below _ _) | with_reducible refine Below.drew ?_))
    have z1 : w.heap.size ≤ w1.heap.size := b1.size
    go_wp2_with fail
    go_ret
    exact ⟨rfl, (by (repeat' (first | with_reducible exact b1 | with_reducible exact Below.refl _ _ | with_reducible refine Below.setCell ?_ (by first | exact Nat.le_refl _ | (dsimp only; omega)) _ | with_reducible refine bstep ?_ (fresh_below _ _) | with_reducible refine Below.drew ?_)))⟩
  · have g8 : s.size < 8 := by omega
    have c1 := fun w => i_Seal s w hs
    have c2 := fun w => i_Check s w hs
    have e1 : S (icmpSeal (L s)) = s := by unfold icmpSeal; rw [L_length, if_pos g8, S_L]
    have e2 : (decide (8 ≤ s.size) && holds [L s]) = false := by simp; omega
    rw [e1] at c1
    rw [e2] at c2
    have C1 := hide c1; have C2 := hide c2
    clear c1 c2 e1 e2 hg
    go_enter Tryd.func4, Tryd.ntmps4
    go_wp2_with fail
    (with_reducible refine (C1.out _).mono ?_)
    rintro e w1 ⟨rfl, b1⟩
    replace b1 : Below w.heap.size w w1 := by (refine bstep ?_ b1); (repeat' (first | with_reducible exact Below.refl _ _ | with_reducible refine Below.setCell ?_ (by first | exact Nat.le_refl _ | (dsimp only; omega)) _ | with_reducible refine bstep ?_ (fresh_below _ _) | with_reducible refine Below.drew ?_))
    have z1 : w.heap.size ≤ w1.heap.size := b1.size
    go_wp2_with fail
    (with_reducible refine (C2.out _).mono ?_)
    rintro e w2 ⟨rfl, b2⟩
    replace b2 : Below w.heap.size w w2 := by (refine bstep ?_ b2); (repeat' (first | with_reducible exact b1 | with_reducible exact Below.refl _ _ | with_reducible refine Below.setCell ?_ (by first | exact Nat.le_refl _ | (dsimp only; omega)) _ | with_reducible refine bstep ?_ (fresh_below _ _) | with_reducible refine Below.drew ?_))
    have z2 : w.heap.size ≤ w2.heap.size := b2.size
    go_wp2_with fail
    (with_reducible refine (C0.out _ (KK.out.below (by (repeat' (first | with_reducible exact b2 | with_reducible exact Below.refl _ _ | with_reducible refine Below.setCell ?_ (by first | exact Nat.le_refl _ | (dsimp only; omega)) _ | with_reducible refine bstep ?_ (fresh_below _ _) | with_reducible refine Below.drew ?_))))).mono ?_)
    rintro e w3 ⟨rfl, b3⟩
    replace b3 : Below w.heap.size w w3 := by (refine bstep ?_ b3); (repeat' (first | with_reducible exact b2 | with_reducible exact Below.refl _ _ | with_reducible refine Below.setCell ?_ (by first | exact Nat.le_refl _ | (dsimp only; omega)) _ | with_reducible refine bstep ?_ (fresh_below _ _) | with_reducible refine Below.drew ?_))
    have z3 : w.heap.size ≤ w3.heap.size := b3.size
    go_wp2_with fail
    go_ret
    exact ⟨rfl, (by (repeat' (first | with_reducible exact b3 | with_reducible exact Below.refl _ _ | with_reducible refine Below.setCell ?_ (by first | exact Nat.le_refl _ | (dsimp only; omega)) _ | with_reducible refine bstep ?_ (fresh_below _ _) | with_reducible refine Below.drew ?_)))⟩

set_option maxHeartbeats 4000000 in
theorem IcmpSeal_in (s : ByteArray) (c : Int) (w : World) (K0 : Kinds w) (h8 : 8 ≤ s.size) (h6 : s.size ≤ 600) (hc : 0 ≤ c ∧ c ≤ 65535) :
    Calls Tryd.prog 4 #[.string s, .int .u16 c] w (Ret (.bool true) w) := by
  obtain ⟨c0, c1⟩ := hc
  have hL : 8 ≤ (L s).length := by rw [L_length]; exact h8
  have hm := icmpSum_bd (L s)
  have ht0 : S (icmpSeal (L s)) = S (lay (L s) 2 (icmpSum (L s))) := by unfold icmpSeal; rw [if_neg (by omega)]
  obtain ⟨m, hm0⟩ : ∃ m, m = icmpSum (L s) := ⟨_, rfl⟩
  obtain ⟨t, ht⟩ : ∃ t, t = S (lay (L s) 2 m) := ⟨_, rfl⟩
  have hLt : L t = lay (L s) 2 m := by rw [ht, L_S]
  have hz : t.size = s.size := by rw [ht, S_size, lay_length (by omega), L_length]
  have e1 : t.extract 0 2 = s.extract 0 2 := by apply L_inj; rw [L_to, L_to, hLt, lay_take (by omega)]
  have e2 : t.extract 4 s.size = s.extract 4 s.size := by
    apply L_inj
    rw [L_from]
    conv => lhs; rw [← hz]
    rw [L_from, hLt, lay_drop (by omega)]
  have hh : holds [L t] = true := by rw [hLt, hm0]; exact icmp_ok hL
  have o1 : (decide (8 ≤ t.size) && holds [L t]) = true := by rw [hh]; simp; omega
  have o2 : S (icmpSeal (L t)) = t := by rw [hLt, hm0, icmpSeal_again hL, ← hm0, ← ht]
  have f1 := fun w => i_Seal s w (by omega)
  rw [ht0, ← hm0, ← ht] at f1
  have f2 := fun w => i_Check t w (by omega)
  rw [o1] at f2
  have f5 := fun w => i_Seal t w (by omega)
  rw [o2] at f5
  have f6 := fun w k => echoed w k
  have g6 : ∀ k, k < 8 * s.size → ∀ w, Calls Tryd.prog 9 #[.string (S (flip (L t) k))] w (Ret (.bool false) w) := fun k hk w => by
    have c := i_Check (S (flip (L t) k)) w (by rw [S_size, flip_length, L_length]; omega)
    rw [L_S, icmp_flip k (by rw [L_length]; omega) hh, Bool.and_false] at c
    exact c
  have G6 := hide g6; have KK := hide K0
  have F1 := hide f1; have F2 := hide f2; have F5 := hide f5; have F6 := hide f6
  clear f1 f2 f5 f6 g6 K0 o1 o2 ht0 ht hLt hh hm hm0 hL
  have i1 : (2 : Int) ≤ (s.size : Int) := by omega
  have i2 : (4 : Int) ≤ (s.size : Int) := by omega
  go_enter Tryd.func4, Tryd.ntmps4
  go_wp2_with fail
  (with_reducible refine (F1.out _).mono ?_)
  rintro e w1 ⟨rfl, b1⟩
  replace b1 : Below w.heap.size w w1 := by (refine bstep ?_ b1); (repeat' (first | with_reducible exact Below.refl _ _ | with_reducible refine Below.setCell ?_ (by first | exact Nat.le_refl _ | (dsimp only; omega)) _ | with_reducible refine bstep ?_ (fresh_below _ _) | with_reducible refine Below.drew ?_))
  have z1 : w.heap.size ≤ w1.heap.size := b1.size
  go_wp2_with fail
  have SK := hide (fun (zX zY : World) (zh : (Below w.heap.size w zX ∧ True)) (zb : Below zX.heap.size zX zY) => (show (Below w.heap.size w zY ∧ True) from ⟨bstep zh.1 zb, trivial⟩))
  have FS := hide (fun (zX : World) (zh : (Below w.heap.size w zX ∧ True)) => zh.1)
  have GS := hide (fun (zX : World) (zh : (Below w.heap.size w zX ∧ True)) => zh)
  have hS0 : (Below w.heap.size w w1 ∧ True) := ⟨(by (repeat' (first | with_reducible exact b1 | with_reducible exact Below.refl _ _ | with_reducible refine Below.setCell ?_ (by first | exact Nat.le_refl _ | (dsimp only; omega)) _ | with_reducible refine bstep ?_ (fresh_below _ _) | with_reducible refine Below.drew ?_))), trivial⟩
  go_region_held3 (fun w' => (Below w.heap.size w w' ∧ True)) (first | assumption | exact SK.out _ _ hS0 (Below.refl _ _).drew | exact SK.out _ _ hS0 (fresh_below _ _).drew | exact SK.out _ _ (by assumption) (fresh_below _ _) | (refine SK.out _ _ ?_ (by assumption); assumption))
    (first | (go_at_call 9; (with_reducible refine (F2.out _).mono ?_); rintro e wq ⟨rfl, bq⟩))
  have b2 := FS.out wq (by assumption)
  clear SK FS GS hS0
  obtain ⟨cap, W, hrun, hB0, hbel⟩ := conv_string wq t
  obtain ⟨k, hk⟩ : ∃ k : Nat, c % (8 * (s.size : Int)) = k :=
    ⟨(c % (8 * (s.size : Int))).toNat, (Int.toNat_of_nonneg (Int.emod_nonneg _ (by omega))).symm⟩
  have hkb : (k : Int) < 8 * s.size := by
    have := Int.emod_lt_of_pos c (show 0 < 8 * (s.size : Int) by omega)
    omega
  obtain ⟨x, hx⟩ : ∃ x, x = at_ (L t) (k / 8) := ⟨_, rfl⟩
  have hc := hB0.cell (j := k / 8) (by rw [L_length]; omega)
  have hf := hB0.frozen (j := k / 8) (by rw [L_length]; omega)
  rw [← hx] at hc
  have hxb : 0 ≤ x ∧ x ≤ 255 := by rw [hx]; exact at_bd _ _
  have HB := hide hB0; have HX := hide hx
  clear hB0 hx
  have j1 : (0 : Int) ≤ (k : Int) / 8 := by omega
  have j2 : (k : Int) / 8 < (s.size : Int) := by omega
  have j3 : ((k : Int) / 8).toNat = k / 8 := by omega
  have j4 : (0 : Int) ≤ (k : Int) % 8 := by omega
  have j5 : (k : Int) % 8 < 8 := by omega
  rw [← hk] at hkb j1 j2 j3 j4 j5
  go_wp2_with fail
  go_region
  have hxf : bits .xor .u8 x (2 ^ (k % 8) % 256) = ((byt (fl x (k % 8))).toNat : Int) := by
    rw [xor_fl hxb (by omega), byt_int _ (fl_bd hxb (by omega)).1]
    have := fl_bd hxb (show k % 8 < 8 by omega)
    omega
  rw [hxf]
  have hB2 : Bytes (W.setCell ⟨wq.heap.size, k / 8, none⟩ (.int .u8 ((byt (fl x (k % 8))).toNat : Int))).drew wq.heap.size (flip (L t) k) := by
    have := HB.out.set_ (k := k / 8) (x := byt (fl x (k % 8))) (by rw [L_length]; omega)
    rw [HX.out] at this ⊢
    exact this
  have b3 : Below w.heap.size w (W.setCell ⟨wq.heap.size, k / 8, none⟩ (.int .u8 ((byt (fl x (k % 8))).toNat : Int))).drew :=
    ((bstep b2 hbel).setCell (p := ⟨wq.heap.size, k / 8, none⟩) b2.size _).drew
  generalize (W.setCell ⟨wq.heap.size, k / 8, none⟩ (.int .u8 ((byt (fl x (k % 8))).toNat : Int))).drew = W2 at *
  have hcv := fun W (h : Bytes W wq.heap.size (flip (L t) k)) => conv_bytes W wq.heap.size cap (flip (L t) k) h
  rw [flip_length, L_length, hz] at hcv
  have hcv2 := hcv _ hB2
  have f3 := G6.out k (by omega)
  obtain ⟨u, hu⟩ : ∃ u, u = S (flip (L t) k) := ⟨_, rfl⟩
  rw [← hu] at hcv2 f3
  have F3 := hide f3
  clear hcv hB2 hxf HB HX hc hf hrun hu hxb f3
  go_wp2_with fail
  (with_reducible refine (F3.out _).mono ?_)
  rintro e w4 ⟨rfl, b4⟩
  replace b4 : Below w.heap.size w w4 := by (refine bstep ?_ b4); (repeat' (first | with_reducible exact b3 | with_reducible exact Below.refl _ _ | with_reducible refine Below.setCell ?_ (by first | exact Nat.le_refl _ | (dsimp only; omega)) _ | with_reducible refine bstep ?_ (fresh_below _ _) | with_reducible refine Below.drew ?_))
  have z4 : w.heap.size ≤ w4.heap.size := b4.size
  go_wp2_with fail
  (with_reducible refine (F5.out _).mono ?_)
  rintro e w5 ⟨rfl, b5⟩
  replace b5 : Below w.heap.size w w5 := by (refine bstep ?_ b5); (repeat' (first | with_reducible exact b4 | with_reducible exact Below.refl _ _ | with_reducible refine Below.setCell ?_ (by first | exact Nat.le_refl _ | (dsimp only; omega)) _ | with_reducible refine bstep ?_ (fresh_below _ _) | with_reducible refine Below.drew ?_))
  have z5 : w.heap.size ≤ w5.heap.size := b5.size
  go_wp2_with fail
  (with_reducible refine (F6.out _ (KK.out.below (by (repeat' (first | with_reducible exact b5 | with_reducible exact Below.refl _ _ | with_reducible refine Below.setCell ?_ (by first | exact Nat.le_refl _ | (dsimp only; omega)) _ | with_reducible refine bstep ?_ (fresh_below _ _) | with_reducible refine Below.drew ?_))))).mono ?_)
  rintro e w6 ⟨rfl, b6⟩
  replace b6 : Below w.heap.size w w6 := by (refine bstep ?_ b6); (repeat' (first | with_reducible exact b5 | with_reducible exact Below.refl _ _ | with_reducible refine Below.setCell ?_ (by first | exact Nat.le_refl _ | (dsimp only; omega)) _ | with_reducible refine bstep ?_ (fresh_below _ _) | with_reducible refine Below.drew ?_))
  have z6 : w.heap.size ≤ w6.heap.size := b6.size
  go_wp2_with fail
  go_ret
  exact ⟨rfl, (by (repeat' (first | with_reducible exact b6 | with_reducible exact Below.refl _ _ | with_reducible refine Below.setCell ?_ (by first | exact Nat.le_refl _ | (dsimp only; omega)) _ | with_reducible refine bstep ?_ (fresh_below _ _) | with_reducible refine Below.drew ?_)))⟩

theorem IcmpSeal_walk (s : ByteArray) (c : Int) (w : World) (K0 : Kinds w) (hs : s.size ≤ 140737488351232) (hc : 0 ≤ c ∧ c ≤ 65535) :
    Calls Tryd.prog 4 #[.string s, .int .u16 c] w (Ret (.bool true) w) := by
  by_cases h : s.size < 8 ∨ 600 < s.size
  · exact IcmpSeal_out s c w K0 hs hc h
  · exact IcmpSeal_in s c w K0 (by omega) (by omega) hc
end Go.Proofs.YthmedjlecikbiaaDoor
