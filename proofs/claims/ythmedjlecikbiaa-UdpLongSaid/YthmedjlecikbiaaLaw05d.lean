/- UdpLong walked: it returns true and leaves what lay there as it lay. -/
import Derived.Test.YthmedjlecikbiaaLaw05b
import Derived.Test.YthmedjlecikbiaaLaw05c
import Derived.Test.YthmedjlecikbiaaShelf
import Derived.Test.YthmedjlecikbiaaHeap2
set_option linter.unusedVariables false
namespace Go.Proofs.Ythmedjlecikbiaa
open Go.RowKit
attribute [local go_sem] Oper.semAt_some

theorem repeatL_one (x : UInt8) : ∀ n, Lib.repeatL [x] n = List.replicate n x
  | 0 => rfl
  | n + 1 => by rw [Lib.repeatL, repeatL_one x n]; rfl

set_option maxRecDepth 100000 in
set_option maxHeartbeats 4000000 in
theorem UdpLong_walk (y c a b : Int) (w : World) (hy : 0 ≤ y ∧ y ≤ 65535) (hc : 0 ≤ c ∧ c ≤ 255) (ha : 0 ≤ a ∧ a ≤ 4294967295) (hb : 0 ≤ b ∧ b ≤ 4294967295) :
    Calls Try.prog 7 #[.int .u16 y, .int .u8 c, .agg #[.int .u32 a, .int .u32 b]] w (Ret (.bool true) w) := by
  obtain ⟨y0, y1⟩ := hy
  obtain ⟨c0, c1⟩ := hc
  obtain ⟨a0, a1⟩ := ha
  obtain ⟨b0, hb1⟩ := hb
  obtain ⟨k, hk⟩ : ∃ k : Nat, y % 600 = k := ⟨(y % 600).toNat, by omega⟩
  have hkb : k < 600 := by omega
  -- the payload
  obtain ⟨p, hp⟩ : ∃ p, p = S (List.replicate (65528 + k) (byt c)) := ⟨_, rfl⟩
  have zp : p.size = 65528 + k := by rw [hp, S_size, List.length_replicate]
  have f1 := fun w => Try.strings_Repeat (S [byt c]) (65528 + k) w (by omega) (by show 1 * (65528 + k) ≤ _; omega)
  rw [show (⟨(Lib.repeatL (S [byt c]).data.toList (65528 + k)).toArray⟩ : ByteArray) = p from by rw [hp, show (S [byt c]).data.toList = [byt c] from rfl, repeatL_one]; rfl] at f1
  rw [show ((65528 + k : Nat) : Int) = 65528 + (k : Int) from by omega] at f1
  have cv : ∀ (W : World) (g : Nat), W.cell? ⟨g, 0, none⟩ = some (.int .u8 c) → (convert 41 9 (.slice (some ⟨g, 0, none⟩) 1 1)).run Try.prog W = .ok (.string (S [byt c])) W := fun W g h0 => by
    exact run_convert_bytes_arg (P := Try.prog) W 41 5 Try.underlying41 Try.underlying5 g 0 1 1 [c] rfl
      (fun i hi => by
        match i, hi with
        | 0, _ => exact h0) 9 Try.underlying9
  have f2 := fun w => udp_Put 0 0 0 0 p w (by omega) (by omega) (by omega) (by omega)
  rw [show (8 + (p.size : Int)) % 65536 = k from by rw [zp]; omega] at f2
  obtain ⟨s, hs⟩ : ∃ s, s = S (udpWords 0 0 k 0 ++ L p) := ⟨_, rfl⟩
  rw [← hs] at f2
  have zs : s.size = 65536 + k := by rw [hs, S_size, List.length_append, L_length, zp]; show 8 + (65528 + k) = _; omega
  have hLs : L s = udpWords 0 0 k 0 ++ L p := by rw [hs, L_S]
  obtain ⟨-, -, e4, -⟩ := udpWords_at 0 0 k 0 (L p) (by omega) (by omega) (by omega) (by omega)
  have k4 : get16 (L s) 4 = k := by rw [show (4 : Int) = ((4 : Nat) : Int) from rfl, get16_nat (by rw [L_length]; omega), hLs, e4]
  have f3 := fun w => udp_Parse_no s w (by unfold maxLen; omega) (udpIs_no (by right; rw [k4, zs]; omega))
  unfold udpNone at f3
  have hL : 8 ≤ (L s).length := by rw [L_length]; omega
  have f4 := fun w => udp_Seal a b s w ⟨a0, a1⟩ ⟨b0, hb1⟩ (by omega)
  rw [udpSeal_lay a b hL] at f4
  have o1 : udpOk a b (S (lay (L s) 6 (udpSum a b (L s)))) = true := udpOk_seal a b hL
  obtain ⟨t, ht⟩ : ∃ t, t = S (lay (L s) 6 (udpSum a b (L s))) := ⟨_, rfl⟩
  rw [← ht] at f4 o1
  have zt : t.size = 65536 + k := by rw [ht, S_size, lay_length (by omega), L_length, zs]
  have f5 := fun w => udp_Check a b t w ⟨a0, a1⟩ ⟨b0, hb1⟩ (by omega)
  rw [o1] at f5
  have e5 : s.extract 4 6 = S [byt ((k : Int) / 256), byt ((k : Int) % 256)] := by
    apply L_inj
    rw [L_extract, hLs, L_S, byt_mod _ (by omega)]
    rfl
  have F1 := hide f1; have F2 := hide f2; have F3 := hide f3; have F4 := hide f4; have F5 := hide f5; have E5 := hide e5; have HK := hide hk
  clear f1 f2 f3 f4 f5 hp hs hLs e4 k4 hL o1 ht e5
  have cv2 : ∀ (W : World) (g : Nat), W.cell? ⟨g, 0, none⟩ = some (.int .u8 (y % 600 / 256)) → W.cell? ⟨g, 1, none⟩ = some (.int .u8 (y % 600 % 256)) → (convert 41 9 (.slice (some ⟨g, 0, none⟩) 2 2)).run Try.prog W = .ok (.string (s.extract 4 6)) W := fun W g h0 h1 => by
    rw [E5.out, ← HK.out]
    exact run_convert_bytes_arg (P := Try.prog) W 41 5 Try.underlying41 Try.underlying5 g 0 2 2 [y % 600 / 256, y % 600 % 256] rfl
      (fun i hi => by
        match i, hi with
        | 0, _ => exact h0
        | 1, _ => exact h1) 9 Try.underlying9
  have i1 : (4 : Int) ≤ (s.size : Int) := by omega
  have i2 : (6 : Int) ≤ (s.size : Int) := by omega
  have i3 : t.size = s.size := by omega
  go_enter Try.func7, Try.ntmps7
  have d0 := Cells.new w #[.int .u32 a, .int .u32 b] 40
  go_wp2_with fail
  (with_reducible refine (F1.out _).mono ?_)
  rintro e w1 ⟨rfl, b1⟩
  replace d0 := Cells.up d0 (by (repeat' (first | with_reducible exact Below.refl _ _ | with_reducible refine bstep ?_ (fresh_below _ _) | with_reducible refine Below.drew ?_))) b1
  replace b1 : Below w.heap.size w w1 := by (refine bstep ?_ b1); (repeat' (first | with_reducible exact Below.refl _ _ | with_reducible refine bstep ?_ (fresh_below _ _) | with_reducible refine Below.drew ?_ | with_reducible refine Below.setCell ?_ (by first | exact Nat.le_refl _ | assumption | omega) _))
  have z1 : w.heap.size ≤ w1.heap.size := b1.size
  clear hk
  go_wp2_with fail
  (with_reducible refine (F2.out _).mono ?_)
  rintro e w2 ⟨rfl, b2⟩
  replace d0 := Cells.up d0 (by (repeat' (first | with_reducible exact Below.refl _ _ | with_reducible refine bstep ?_ (fresh_below _ _) | with_reducible refine Below.drew ?_))) b2
  replace b2 : Below w.heap.size w w2 := by (refine bstep ?_ b2); (repeat' (first | with_reducible exact b1 | with_reducible exact Below.refl _ _ | with_reducible refine bstep ?_ (fresh_below _ _) | with_reducible refine Below.drew ?_ | with_reducible refine Below.setCell ?_ (by first | exact Nat.le_refl _ | assumption | omega) _))
  have z2 : w.heap.size ≤ w2.heap.size := b2.size
  go_wp2_with fail
  (with_reducible refine (F3.out _).mono ?_)
  rintro e w3 ⟨rfl, b3⟩
  replace d0 := Cells.up d0 (by (repeat' (first | with_reducible exact Below.refl _ _ | with_reducible refine bstep ?_ (fresh_below _ _) | with_reducible refine Below.drew ?_))) b3
  replace b3 : Below w.heap.size w w3 := by (refine bstep ?_ b3); (repeat' (first | with_reducible exact b2 | with_reducible exact Below.refl _ _ | with_reducible refine bstep ?_ (fresh_below _ _) | with_reducible refine Below.drew ?_ | with_reducible refine Below.setCell ?_ (by first | exact Nat.le_refl _ | assumption | omega) _))
  have z3 : w.heap.size ≤ w3.heap.size := b3.size
  have d1 := Cells.alloc d0 (.cells #[.int .u16 0, .int .u16 0, .int .u16 0, .int .u16 0] 24)
  have xd1_0 : (w3.alloc (.cells #[.int .u16 0, .int .u16 0, .int .u16 0, .int .u16 0] 24)).cell? ⟨w.heap.size, 0, none⟩ = some (.int .u32 a) := d1.at_ 0
  have xd1_1 : (w3.alloc (.cells #[.int .u16 0, .int .u16 0, .int .u16 0, .int .u16 0] 24)).cell? ⟨w.heap.size, 1, none⟩ = some (.int .u32 b) := d1.at_ 1
  go_wp2_with fail
  (with_reducible refine (F4.out _).mono ?_)
  rintro e w4 ⟨rfl, b4⟩
  replace d0 := Cells.up d0 (by (repeat' (first | with_reducible exact Below.refl _ _ | with_reducible refine bstep ?_ (fresh_below _ _) | with_reducible refine Below.drew ?_))) b4
  replace b4 : Below w.heap.size w w4 := by (refine bstep ?_ b4); (repeat' (first | with_reducible exact b3 | with_reducible exact Below.refl _ _ | with_reducible refine bstep ?_ (fresh_below _ _) | with_reducible refine Below.drew ?_ | with_reducible refine Below.setCell ?_ (by first | exact Nat.le_refl _ | assumption | omega) _))
  have z4 : w.heap.size ≤ w4.heap.size := b4.size
  go_wp2_with fail
  have m1 : y.tmod 600 = y % 600 := Int.tmod_eq_emod_of_nonneg y0
  have m2 : IntKind.u8.wrap (y % 600 / 256) = y % 600 / 256 := by rw [IntKind.wrap_u8]; omega
  have m3 : IntKind.u8.wrap (y % 600) = y % 600 % 256 := by rw [IntKind.wrap_u8]
  have SK := hide (fun (zX zY : World) (zh : (Below w.heap.size w zX ∧ zX.cell? ⟨w.heap.size, 0, none⟩ = some (.int .u32 a) ∧ zX.cell? ⟨w.heap.size, 1, none⟩ = some (.int .u32 b) ∧ True)) (zb : Below zX.heap.size zX zY) => (show (Below w.heap.size w zY ∧ zY.cell? ⟨w.heap.size, 0, none⟩ = some (.int .u32 a) ∧ zY.cell? ⟨w.heap.size, 1, none⟩ = some (.int .u32 b) ∧ True) from ⟨bstep zh.1 zb, cellAt zb zh.2.1, cellAt zb zh.2.2.1, trivial⟩))
  have FS := hide (fun (zX : World) (zh : (Below w.heap.size w zX ∧ zX.cell? ⟨w.heap.size, 0, none⟩ = some (.int .u32 a) ∧ zX.cell? ⟨w.heap.size, 1, none⟩ = some (.int .u32 b) ∧ True)) => zh.1)
  have GS := hide (fun (zX : World) (zh : (Below w.heap.size w zX ∧ zX.cell? ⟨w.heap.size, 0, none⟩ = some (.int .u32 a) ∧ zX.cell? ⟨w.heap.size, 1, none⟩ = some (.int .u32 b) ∧ True)) => zh)
  have hS0 : (Below w.heap.size w w4 ∧ w4.cell? ⟨w.heap.size, 0, none⟩ = some (.int .u32 a) ∧ w4.cell? ⟨w.heap.size, 1, none⟩ = some (.int .u32 b) ∧ True) := ⟨(by (repeat' (first | with_reducible exact b4 | with_reducible exact Below.refl _ _ | with_reducible refine bstep ?_ (fresh_below _ _) | with_reducible refine Below.drew ?_ | with_reducible refine Below.setCell ?_ (by first | exact Nat.le_refl _ | assumption | omega) _))), d0.at_ 0, d0.at_ 1, trivial⟩
  go_region_held_law (fun w' => (Below w.heap.size w w' ∧ w'.cell? ⟨w.heap.size, 0, none⟩ = some (.int .u32 a) ∧ w'.cell? ⟨w.heap.size, 1, none⟩ = some (.int .u32 b) ∧ True)) (first | assumption | exact SK.out _ _ hS0 (Below.refl _ _).drew | exact SK.out _ _ hS0 (fresh_below _ _).drew | exact SK.out _ _ (by assumption) (fresh_below _ _) | (refine SK.out _ _ ?_ (by assumption); assumption))
    (first | (go_at_call 13; (with_reducible refine (F5.out _).mono ?_); rintro e wq ⟨rfl, bq⟩) | (go_at_call 8; (with_reducible refine (sent _).mono ?_); rintro e wq ⟨rfl, bq⟩))
  all_goals
    go_wp2
    go_ret
    exact ⟨rfl, (by first | exact FS.out _ (by assumption) | exact bstep (FS.out _ (by assumption)) (fresh_below _ _) | exact bstep (bstep (FS.out _ (by assumption)) (fresh_below _ _)) (fresh_below _ _))⟩
end Go.Proofs.Ythmedjlecikbiaa
