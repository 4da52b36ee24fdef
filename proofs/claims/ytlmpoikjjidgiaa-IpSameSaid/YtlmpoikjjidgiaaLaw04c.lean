/- What is parsed is put as it was: the walk. -/
import Derived.Test.YtlmpoikjjidgiaaIp9
set_option linter.unusedVariables false
set_option linter.unusedSimpArgs false
namespace Go.Proofs.Ytlmpoikjjidgiaa
open Go.RowKit
attribute [local go_sem] Oper.semAt_some

set_option maxRecDepth 100000 in
set_option maxHeartbeats 2000000 in
theorem IpSame_walk (s : ByteArray) (w : World) (hs : s.size ≤ 140737488351232) :
    Calls Try.prog 11 #[.string s] w (Ret (.bool true) w) := by
  by_cases k1 : 2500 < s.size
  · go_enter Try.func11, Try.ntmps11
    go_wp2_with fail
    (with_reducible refine (headed _).mono ?_)
    rintro e w1 ⟨rfl, b1⟩
    replace b1 : Below w.heap.size w w1 := by (refine bstep ?_ b1); (repeat' (first | with_reducible exact Below.refl _ _ | with_reducible refine Below.setCell ?_ (by first | exact Nat.le_refl _ | (dsimp only; omega)) _ | with_reducible refine bstep ?_ (fresh_below _ _) | with_reducible refine Below.drew ?_))
    have z1 : w.heap.size ≤ w1.heap.size := b1.size
    go_wp2_with fail
    go_ret
    exact ⟨rfl, (by (repeat' (first | with_reducible exact b1 | with_reducible exact Below.refl _ _ | with_reducible refine Below.setCell ?_ (by first | exact Nat.le_refl _ | (dsimp only; omega)) _ | with_reducible refine bstep ?_ (fresh_below _ _) | with_reducible refine Below.drew ?_)))⟩
  have k4 : ¬ 2500 < (s.size : Int) := by omega
  have c2 := fun W => i_Parse s W hs
  by_cases hw : ipWhy s = 0
  · obtain ⟨he, ⟨t1, t2⟩, hy, hn⟩ := ip_same s hs hw
    have c3 := fun W => i_Put (hdOf s).t (hdOf s).i (hdOf s).l (hdOf s).p (hdOf s).s (hdOf s).d (hdOf s).f (hdOf s).o (ipRest s) W (hdOf_ok hs) (by
      unfold ipRest; rw [if_pos hw, ByteArray.size_extract]; omega)
    rw [show ipErr (Hd.mk (hdOf s).t (hdOf s).i (hdOf s).f (hdOf s).l (hdOf s).p (hdOf s).s (hdOf s).d (hdOf s).o) (ipRest s) = 0 from he, show Hd.mk (hdOf s).t (hdOf s).i (hdOf s).f (hdOf s).l (hdOf s).p (hdOf s).s (hdOf s).d (hdOf s).o = hdOf s from rfl] at c3
    rw [show hdRes s = hdOf s from by unfold hdRes; rw [if_pos hw], hw] at c2
    obtain ⟨x, hx⟩ : ∃ x, x = ipText (hdOf s) (ipRest s) := ⟨_, rfl⟩
    rw [← hx] at c3 t1 t2 hy hn
    obtain ⟨q, hq⟩ : ∃ q, q = ipRest s := ⟨_, rfl⟩
    rw [← hq] at c2 c3
    clear hx hq he
    have h20 : 20 ≤ s.size := by omega
    generalize hdOf s = g at *
    obtain ⟨g0, g1, g2, g3, g4, g5, g6, g7⟩ := g
    simp only [Hd.cells] at c2 c3
    have C2 := hide c2; have C3 := hide c3
    clear c2 c3 hw
    have m1 : ¬ (s.size : Int) < (x.size : Int) := by omega
    have m2 : ¬ (x.size : Int) < 20 := by omega
    have m3 : (12 : Int) ≤ (s.size : Int) := by omega
    have m4 : (12 : Int) ≤ (x.size : Int) := by omega
    have m5 : (10 : Int) ≤ (s.size : Int) := by omega
    have m6 : (10 : Int) ≤ (x.size : Int) := by omega
    have m7 : (x.size : Int) ≤ (s.size : Int) := by omega
    by_cases hff : L (s.extract 10 12) = [255, 255]
    · obtain ⟨y1, y2, y3⟩ := hy hff
      clear hy hn
      have q1 : ((s.extract 10 12).toList == [255, 255]) = true := by rw [str_toList, hff]; rfl
      have q1' : (s.extract 10 12).toList = [255, 255] := by rw [str_toList, hff]
      have q2' : (x.extract 10 12).toList = [0, 0] := by rw [str_toList, y1]
      have q3 : ((x.extract 0 10).toList == (s.extract 0 10).toList) = true := by rw [y2]; simp
      have q4 : ((x.extract 12 x.size).toList == (s.extract 12 x.size).toList) = true := by rw [y3]; simp
      clear y1 hff y2 y3
      go_enter Try.func11, Try.ntmps11
      go_wp2_with fail
      (with_reducible refine (C2.out _).mono ?_)
      rintro e w2 ⟨rfl, b2⟩
      have e3 := Cells.new w2 #[.int .u8 g0, .int .u16 g1, .bool g2, .int .u8 g3, .int .u8 g4, .int .u32 g5, .int .u32 g6, .string g7] 48
      have xe3_0 : (w2.alloc (.cells #[.int .u8 g0, .int .u16 g1, .bool g2, .int .u8 g3, .int .u8 g4, .int .u32 g5, .int .u32 g6, .string g7] 48)).cell? ⟨w2.heap.size, 0, none⟩ = some (.int .u8 g0) := e3.at_ 0
      have xe3_1 : (w2.alloc (.cells #[.int .u8 g0, .int .u16 g1, .bool g2, .int .u8 g3, .int .u8 g4, .int .u32 g5, .int .u32 g6, .string g7] 48)).cell? ⟨w2.heap.size, 1, none⟩ = some (.int .u16 g1) := e3.at_ 1
      have xe3_2 : (w2.alloc (.cells #[.int .u8 g0, .int .u16 g1, .bool g2, .int .u8 g3, .int .u8 g4, .int .u32 g5, .int .u32 g6, .string g7] 48)).cell? ⟨w2.heap.size, 2, none⟩ = some (.bool g2) := e3.at_ 2
      have xe3_3 : (w2.alloc (.cells #[.int .u8 g0, .int .u16 g1, .bool g2, .int .u8 g3, .int .u8 g4, .int .u32 g5, .int .u32 g6, .string g7] 48)).cell? ⟨w2.heap.size, 3, none⟩ = some (.int .u8 g3) := e3.at_ 3
      have xe3_4 : (w2.alloc (.cells #[.int .u8 g0, .int .u16 g1, .bool g2, .int .u8 g3, .int .u8 g4, .int .u32 g5, .int .u32 g6, .string g7] 48)).cell? ⟨w2.heap.size, 4, none⟩ = some (.int .u8 g4) := e3.at_ 4
      have xe3_5 : (w2.alloc (.cells #[.int .u8 g0, .int .u16 g1, .bool g2, .int .u8 g3, .int .u8 g4, .int .u32 g5, .int .u32 g6, .string g7] 48)).cell? ⟨w2.heap.size, 5, none⟩ = some (.int .u32 g5) := e3.at_ 5
      have xe3_6 : (w2.alloc (.cells #[.int .u8 g0, .int .u16 g1, .bool g2, .int .u8 g3, .int .u8 g4, .int .u32 g5, .int .u32 g6, .string g7] 48)).cell? ⟨w2.heap.size, 6, none⟩ = some (.int .u32 g6) := e3.at_ 6
      have xe3_7 : (w2.alloc (.cells #[.int .u8 g0, .int .u16 g1, .bool g2, .int .u8 g3, .int .u8 g4, .int .u32 g5, .int .u32 g6, .string g7] 48)).cell? ⟨w2.heap.size, 7, none⟩ = some (.string g7) := e3.at_ 7
      go_wp2_with fail
      (with_reducible refine (C3.out _).mono ?_)
      rintro e w3 ⟨rfl, b3⟩
      replace b3 : Below w.heap.size w w3 := bstep (bstep b2 (fresh_below _ _)) b3
      have z3 : w.heap.size ≤ w3.heap.size := b3.size
      clear xe3_0 xe3_1 xe3_2 xe3_3 xe3_4 xe3_5 xe3_6 xe3_7 e3
      go_wp2_with fail
      have bb := b3
      have SK := hide (fun (zX zY : World) (zh : (Below w.heap.size w zX ∧ True)) (zb : Below zX.heap.size zX zY) => (show (Below w.heap.size w zY ∧ True) from ⟨bstep zh.1 zb, trivial⟩))
      have FS := hide (fun (zX : World) (zh : (Below w.heap.size w zX ∧ True)) => zh.1)
      have GS := hide (fun (zX : World) (zh : (Below w.heap.size w zX ∧ True)) => zh)
      have hS0 : (Below w.heap.size w w3 ∧ True) := ⟨(by (repeat' (first | with_reducible exact b3 | with_reducible exact Below.refl _ _ | with_reducible refine Below.setCell ?_ (by first | exact Nat.le_refl _ | (dsimp only; omega)) _ | with_reducible refine bstep ?_ (fresh_below _ _) | with_reducible refine Below.drew ?_))), trivial⟩
      go_region_held3 (fun w' => (Below w.heap.size w w' ∧ True)) (first | assumption | exact SK.out _ _ hS0 (Below.refl _ _).drew | exact SK.out _ _ hS0 (fresh_below _ _).drew | exact SK.out _ _ (by assumption) (fresh_below _ _) | (refine SK.out _ _ ?_ (by assumption); assumption))
        (first | (go_at_call 22; (with_reducible refine (headed _).mono ?_); rintro e wq ⟨rfl, bq⟩))
      all_goals
        go_wp2
        go_ret
        exact ⟨rfl, (by first | exact FS.out _ (by assumption) | exact bstep (FS.out _ (by assumption)) (fresh_below _ _) | exact bstep (bstep (FS.out _ (by assumption)) (fresh_below _ _)) (fresh_below _ _))⟩
    · have y2 := hn hff
      have q1 : ((s.extract 10 12).toList == [255, 255]) = false := by rw [str_toList]; simpa using hff
      have q1' : ¬ (s.extract 10 12).toList = [255, 255] := by rw [str_toList]; exact hff
      have q3 : (x.toList == (s.extract 0 x.size).toList) = true := by rw [← y2]; simp
      clear hy hn hff y2
      go_enter Try.func11, Try.ntmps11
      go_wp2_with fail
      (with_reducible refine (C2.out _).mono ?_)
      rintro e w2 ⟨rfl, b2⟩
      have e3 := Cells.new w2 #[.int .u8 g0, .int .u16 g1, .bool g2, .int .u8 g3, .int .u8 g4, .int .u32 g5, .int .u32 g6, .string g7] 48
      have xe3_0 : (w2.alloc (.cells #[.int .u8 g0, .int .u16 g1, .bool g2, .int .u8 g3, .int .u8 g4, .int .u32 g5, .int .u32 g6, .string g7] 48)).cell? ⟨w2.heap.size, 0, none⟩ = some (.int .u8 g0) := e3.at_ 0
      have xe3_1 : (w2.alloc (.cells #[.int .u8 g0, .int .u16 g1, .bool g2, .int .u8 g3, .int .u8 g4, .int .u32 g5, .int .u32 g6, .string g7] 48)).cell? ⟨w2.heap.size, 1, none⟩ = some (.int .u16 g1) := e3.at_ 1
      have xe3_2 : (w2.alloc (.cells #[.int .u8 g0, .int .u16 g1, .bool g2, .int .u8 g3, .int .u8 g4, .int .u32 g5, .int .u32 g6, .string g7] 48)).cell? ⟨w2.heap.size, 2, none⟩ = some (.bool g2) := e3.at_ 2
      have xe3_3 : (w2.alloc (.cells #[.int .u8 g0, .int .u16 g1, .bool g2, .int .u8 g3, .int .u8 g4, .int .u32 g5, .int .u32 g6, .string g7] 48)).cell? ⟨w2.heap.size, 3, none⟩ = some (.int .u8 g3) := e3.at_ 3
      have xe3_4 : (w2.alloc (.cells #[.int .u8 g0, .int .u16 g1, .bool g2, .int .u8 g3, .int .u8 g4, .int .u32 g5, .int .u32 g6, .string g7] 48)).cell? ⟨w2.heap.size, 4, none⟩ = some (.int .u8 g4) := e3.at_ 4
      have xe3_5 : (w2.alloc (.cells #[.int .u8 g0, .int .u16 g1, .bool g2, .int .u8 g3, .int .u8 g4, .int .u32 g5, .int .u32 g6, .string g7] 48)).cell? ⟨w2.heap.size, 5, none⟩ = some (.int .u32 g5) := e3.at_ 5
      have xe3_6 : (w2.alloc (.cells #[.int .u8 g0, .int .u16 g1, .bool g2, .int .u8 g3, .int .u8 g4, .int .u32 g5, .int .u32 g6, .string g7] 48)).cell? ⟨w2.heap.size, 6, none⟩ = some (.int .u32 g6) := e3.at_ 6
      have xe3_7 : (w2.alloc (.cells #[.int .u8 g0, .int .u16 g1, .bool g2, .int .u8 g3, .int .u8 g4, .int .u32 g5, .int .u32 g6, .string g7] 48)).cell? ⟨w2.heap.size, 7, none⟩ = some (.string g7) := e3.at_ 7
      go_wp2_with fail
      (with_reducible refine (C3.out _).mono ?_)
      rintro e w3 ⟨rfl, b3⟩
      replace b3 : Below w.heap.size w w3 := bstep (bstep b2 (fresh_below _ _)) b3
      have z3 : w.heap.size ≤ w3.heap.size := b3.size
      clear xe3_0 xe3_1 xe3_2 xe3_3 xe3_4 xe3_5 xe3_6 xe3_7 e3
      go_wp2_with fail
      (with_reducible refine (headed _).mono ?_)
      rintro e w5 ⟨rfl, b5⟩
      replace b5 : Below w.heap.size w w5 := by (refine bstep ?_ b5); (repeat' (first | with_reducible exact b3 | with_reducible exact Below.refl _ _ | with_reducible refine Below.setCell ?_ (by first | exact Nat.le_refl _ | (dsimp only; omega)) _ | with_reducible refine bstep ?_ (fresh_below _ _) | with_reducible refine Below.drew ?_))
      have z5 : w.heap.size ≤ w5.heap.size := b5.size
      go_wp2_with fail
      go_ret
      exact ⟨rfl, (by (repeat' (first | with_reducible exact b5 | with_reducible exact Below.refl _ _ | with_reducible refine Below.setCell ?_ (by first | exact Nat.le_refl _ | (dsimp only; omega)) _ | with_reducible refine bstep ?_ (fresh_below _ _) | with_reducible refine Below.drew ?_)))⟩
  · rw [show hdRes s = hdNone from by unfold hdRes; rw [if_neg hw], show ipRest s = { data := #[] } from by unfold ipRest; rw [if_neg hw]] at c2
    have m1 : (ipWhy s != 0) = true := by simpa using hw
    have m2 : (ipWhy s == 0) = false := by simpa using hw
    generalize ipWhy s = k at *
    unfold hdNone at c2
    simp only [Hd.cells] at c2
    have C2 := hide c2
    clear c2 hw
    go_enter Try.func11, Try.ntmps11
    go_wp2_with fail
    (with_reducible refine (C2.out _).mono ?_)
    rintro e w2 ⟨rfl, b2⟩
    have e3 := Cells.new w2 #[.int .u8 0, .int .u16 0, .bool false, .int .u8 0, .int .u8 0, .int .u32 0, .int .u32 0, .string { data := #[] }] 48
    have xe3_0 : (w2.alloc (.cells #[.int .u8 0, .int .u16 0, .bool false, .int .u8 0, .int .u8 0, .int .u32 0, .int .u32 0, .string { data := #[] }] 48)).cell? ⟨w2.heap.size, 0, none⟩ = some (.int .u8 0) := e3.at_ 0
    have xe3_1 : (w2.alloc (.cells #[.int .u8 0, .int .u16 0, .bool false, .int .u8 0, .int .u8 0, .int .u32 0, .int .u32 0, .string { data := #[] }] 48)).cell? ⟨w2.heap.size, 1, none⟩ = some (.int .u16 0) := e3.at_ 1
    have xe3_2 : (w2.alloc (.cells #[.int .u8 0, .int .u16 0, .bool false, .int .u8 0, .int .u8 0, .int .u32 0, .int .u32 0, .string { data := #[] }] 48)).cell? ⟨w2.heap.size, 2, none⟩ = some (.bool false) := e3.at_ 2
    have xe3_3 : (w2.alloc (.cells #[.int .u8 0, .int .u16 0, .bool false, .int .u8 0, .int .u8 0, .int .u32 0, .int .u32 0, .string { data := #[] }] 48)).cell? ⟨w2.heap.size, 3, none⟩ = some (.int .u8 0) := e3.at_ 3
    have xe3_4 : (w2.alloc (.cells #[.int .u8 0, .int .u16 0, .bool false, .int .u8 0, .int .u8 0, .int .u32 0, .int .u32 0, .string { data := #[] }] 48)).cell? ⟨w2.heap.size, 4, none⟩ = some (.int .u8 0) := e3.at_ 4
    have xe3_5 : (w2.alloc (.cells #[.int .u8 0, .int .u16 0, .bool false, .int .u8 0, .int .u8 0, .int .u32 0, .int .u32 0, .string { data := #[] }] 48)).cell? ⟨w2.heap.size, 5, none⟩ = some (.int .u32 0) := e3.at_ 5
    have xe3_6 : (w2.alloc (.cells #[.int .u8 0, .int .u16 0, .bool false, .int .u8 0, .int .u8 0, .int .u32 0, .int .u32 0, .string { data := #[] }] 48)).cell? ⟨w2.heap.size, 6, none⟩ = some (.int .u32 0) := e3.at_ 6
    have xe3_7 : (w2.alloc (.cells #[.int .u8 0, .int .u16 0, .bool false, .int .u8 0, .int .u8 0, .int .u32 0, .int .u32 0, .string { data := #[] }] 48)).cell? ⟨w2.heap.size, 7, none⟩ = some (.string { data := #[] }) := e3.at_ 7
    have b3 : Below w.heap.size w (w2.alloc (.cells #[.int .u8 0, .int .u16 0, .bool false, .int .u8 0, .int .u8 0, .int .u32 0, .int .u32 0, .string { data := #[] }] 48)) := bstep b2 (fresh_below _ _)
    go_wp2_with fail
    (with_reducible refine (headed _).mono ?_)
    rintro e w5 ⟨rfl, b5⟩
    replace b5 : Below w.heap.size w w5 := by (refine bstep ?_ b5); (repeat' (first | with_reducible exact b3 | with_reducible exact Below.refl _ _ | with_reducible refine Below.setCell ?_ (by first | exact Nat.le_refl _ | (dsimp only; omega)) _ | with_reducible refine bstep ?_ (fresh_below _ _) | with_reducible refine Below.drew ?_))
    have z5 : w.heap.size ≤ w5.heap.size := b5.size
    go_wp2_with fail
    go_ret
    exact ⟨rfl, (by (repeat' (first | with_reducible exact b5 | with_reducible exact Below.refl _ _ | with_reducible refine Below.setCell ?_ (by first | exact Nat.le_refl _ | (dsimp only; omega)) _ | with_reducible refine bstep ?_ (fresh_below _ _) | with_reducible refine Below.drew ?_)))⟩
end Go.Proofs.Ytlmpoikjjidgiaa
