/- The laws of layer 6 that ask the document's answer: the chapter's examples, the sums. -/
import Derived.Test.YtlmpoikjjidgiaaTcp2
import Derived.Test.YtlmpoikjjidgiaaTcp4
import Derived.Test.YtlmpoikjjidgiaaShelf
import Derived.Test.YtlmpoikjjidgiaaHeap2
set_option linter.unusedVariables false
namespace Go.Proofs.Ytlmpoikjjidgiaa
open Go.RowKit
attribute [local go_sem] Oper.semAt_some

set_option maxRecDepth 100000 in
set_option maxHeartbeats 2000000 in
theorem begun (w : World) : Calls Try.prog 13 #[] w (Ret (.bool true) w) := by
  have v1 : S ((Seg.mk 1 2 3 4 0 2 5 0 0 { data := #[] }).put { data := #[] }) = ({ data := #[0, 1, 0, 2, 0, 0, 0, 3, 0, 0, 0, 4, 80, 2, 0, 5, 0, 0, 0, 0] } : ByteArray) := by decide +kernel
  have v2 : S (tcpSeal 16909060 84281096 (L { data := #[0, 1, 0, 2, 0, 0, 0, 3, 0, 0, 0, 4, 80, 2, 0, 5, 0, 0, 0, 0] })) = ({ data := #[0, 1, 0, 2, 0, 0, 0, 3, 0, 0, 0, 4, 80, 2, 0, 5, 159, 192, 0, 0] } : ByteArray) := by decide +kernel
  have v3 : tcpIs { data := #[0, 0, 0, 0, 0, 0, 0, 0, 0, 0, 0, 0, 0, 0, 0, 0, 0, 0, 0, 0] } = false := by decide +kernel
  have v4 : tcpIs { data := #[0, 1, 0, 2, 0, 0, 0, 3, 0, 0, 0, 4, 96, 2, 0, 5, 0, 0, 0, 0] } = false := by decide +kernel
  have v5 : tcpOk 16909060 84281096 { data := #[0, 1, 0, 2, 0, 0, 0, 3, 0, 0, 0, 4, 80, 2, 0, 5, 159, 192, 0, 0] } = true := by decide +kernel
  have v6 : (⟨(Lib.repeatL ({ data := #[0] } : ByteArray).data.toList 20).toArray⟩ : ByteArray) = { data := #[0, 0, 0, 0, 0, 0, 0, 0, 0, 0, 0, 0, 0, 0, 0, 0, 0, 0, 0, 0] } := by decide +kernel
  have c1 := fun w => t_Put_yes 1 2 3 4 0 2 5 0 0 { data := #[] } { data := #[] } w (by refine ⟨?_, ?_, ?_, ?_, ?_, ?_, ?_, ?_, ?_, ?_⟩ <;> decide) (by decide) (by decide +kernel)
  have c2 := fun w => t_Seal 16909060 84281096 { data := #[0, 1, 0, 2, 0, 0, 0, 3, 0, 0, 0, 4, 80, 2, 0, 5, 0, 0, 0, 0] } w (by omega) (by omega) (by decide)
  have c3 := fun w => Try.strings_Repeat { data := #[0] } 20 w (by omega) (by decide)
  have c4 := fun w => t_Parse_no { data := #[0, 0, 0, 0, 0, 0, 0, 0, 0, 0, 0, 0, 0, 0, 0, 0, 0, 0, 0, 0] } w (by decide) v3
  have c5 := fun w => t_Parse_no { data := #[0, 1, 0, 2, 0, 0, 0, 3, 0, 0, 0, 4, 96, 2, 0, 5, 0, 0, 0, 0] } w (by decide) v4
  rw [show ({ data := #[0, 1, 0, 2, 0, 0, 0, 3, 0, 0, 0, 4, 96, 2, 0, 5, 0, 0, 0, 0] } : ByteArray) = ({ data := #[0, 1, 0, 2, 0, 0, 0, 3, 0, 0, 0, 4, 80, 2, 0, 5, 0, 0, 0, 0] } : ByteArray).extract 0 12 ++ { data := #[96] } ++ ({ data := #[0, 1, 0, 2, 0, 0, 0, 3, 0, 0, 0, 4, 80, 2, 0, 5, 0, 0, 0, 0] } : ByteArray).extract 13 20 from by decide +kernel] at c5
  have c6 := fun w => t_Put_no 0 0 0 0 16 0 0 0 0 { data := #[] } { data := #[] } w (by omega) (by decide) (by decide +kernel)
  have c7 := fun w => t_Put_no 0 0 0 0 0 0 0 0 0 { data := #[97, 98] } { data := #[] } w (by omega) (by decide) (by decide +kernel)
  have c8 := fun w => t_Check 16909060 84281096 { data := #[0, 1, 0, 2, 0, 0, 0, 3, 0, 0, 0, 4, 80, 2, 0, 5, 159, 192, 0, 0] } w (by omega) (by omega) (by decide)
  rw [v1] at c1; rw [v2] at c2; rw [v6, show ((20 : Nat) : Int) = 20 from rfl] at c3; rw [v5] at c8
  have q9 : (({ data := #[0, 1, 0, 2, 0, 0, 0, 3, 0, 0, 0, 4, 80, 2, 0, 5, 159, 192, 0, 0] } : ByteArray).extract 16 18).toList = [159, 192] := by decide +kernel
  have C1 := hide c1; have C2 := hide c2; have C3 := hide c3; have C4 := hide c4; have C5 := hide c5; have C6 := hide c6; have C7 := hide c7; have C8 := hide c8
  clear c1 c2 c3 c4 c5 c6 c7 c8 v1 v2 v3 v4 v5 v6
  go_enter Try.func13, Try.ntmps13
  go_wp2_with fail
  (with_reducible refine (C1.out _).mono ?_)
  rintro e w1 ⟨rfl, b1⟩
  replace b1 : Below w.heap.size w w1 := by (refine bstep ?_ b1); (repeat' (first | with_reducible exact Below.refl _ _ | with_reducible refine Below.setCell ?_ (by first | exact Nat.le_refl _ | (dsimp only; omega)) _ | with_reducible refine bstep ?_ (fresh_below _ _) | with_reducible refine Below.drew ?_))
  have z1 : w.heap.size ≤ w1.heap.size := b1.size
  go_wp2_with fail
  (with_reducible refine (C2.out _).mono ?_)
  rintro e w2 ⟨rfl, b2⟩
  replace b2 : Below w.heap.size w w2 := by (refine bstep ?_ b2); (repeat' (first | with_reducible exact b1 | with_reducible exact Below.refl _ _ | with_reducible refine Below.setCell ?_ (by first | exact Nat.le_refl _ | (dsimp only; omega)) _ | with_reducible refine bstep ?_ (fresh_below _ _) | with_reducible refine Below.drew ?_))
  have z2 : w.heap.size ≤ w2.heap.size := b2.size
  go_wp2_with fail
  (with_reducible refine (C3.out _).mono ?_)
  rintro e w3 ⟨rfl, b3⟩
  replace b3 : Below w.heap.size w w3 := by (refine bstep ?_ b3); (repeat' (first | with_reducible exact b2 | with_reducible exact Below.refl _ _ | with_reducible refine Below.setCell ?_ (by first | exact Nat.le_refl _ | (dsimp only; omega)) _ | with_reducible refine bstep ?_ (fresh_below _ _) | with_reducible refine Below.drew ?_))
  have z3 : w.heap.size ≤ w3.heap.size := b3.size
  go_wp2_with fail
  (with_reducible refine (C4.out _).mono ?_)
  rintro e w4 ⟨rfl, b4⟩
  replace b4 : Below w.heap.size w w4 := by (refine bstep ?_ b4); (repeat' (first | with_reducible exact b3 | with_reducible exact Below.refl _ _ | with_reducible refine Below.setCell ?_ (by first | exact Nat.le_refl _ | (dsimp only; omega)) _ | with_reducible refine bstep ?_ (fresh_below _ _) | with_reducible refine Below.drew ?_))
  have z4 : w.heap.size ≤ w4.heap.size := b4.size
  go_wp2_with fail
  go_region_held3 (fun _ => True) (trivial)
    (first | (go_at_call 14; (with_reducible refine (C5.out _).mono ?_); rintro e w5 ⟨rfl, b5⟩; have dz := Cells.below b5 (Cells.new _ #[.int .u16 0, .int .u16 0, .int .u32 0, .int .u32 0, .int .u8 0, .int .u8 0, .int .u16 0, .int .u16 0, .int .u16 0, .string { data := #[] }] 25); (try rw [show (w4.alloc (.cells #[.int .u16 0, .int .u16 0, .int .u32 0, .int .u32 0, .int .u8 0, .int .u8 0, .int .u16 0, .int .u16 0, .int .u16 0, .string { data := #[] }] 25)).heap.size = w4.heap.size + 1 from by simp] at dz); have x0 : World.cell? _ ⟨_, 0, none⟩ = some (.int .u16 0) := dz.at_ 0; have y0 := dz.free 0; have x1 : World.cell? _ ⟨_, 1, none⟩ = some (.int .u16 0) := dz.at_ 1; have y1 := dz.free 1; have x2 : World.cell? _ ⟨_, 2, none⟩ = some (.int .u32 0) := dz.at_ 2; have y2 := dz.free 2; have x3 : World.cell? _ ⟨_, 3, none⟩ = some (.int .u32 0) := dz.at_ 3; have y3 := dz.free 3; have x4 : World.cell? _ ⟨_, 4, none⟩ = some (.int .u8 0) := dz.at_ 4; have y4 := dz.free 4; have x5 : World.cell? _ ⟨_, 5, none⟩ = some (.int .u8 0) := dz.at_ 5; have y5 := dz.free 5; have x6 : World.cell? _ ⟨_, 6, none⟩ = some (.int .u16 0) := dz.at_ 6; have y6 := dz.free 6; have x7 : World.cell? _ ⟨_, 7, none⟩ = some (.int .u16 0) := dz.at_ 7; have y7 := dz.free 7; have x8 : World.cell? _ ⟨_, 8, none⟩ = some (.int .u16 0) := dz.at_ 8; have y8 := dz.free 8; have x9 : World.cell? _ ⟨_, 9, none⟩ = some (.string { data := #[] }) := dz.at_ 9; have y9 := dz.free 9; have dn := Cells.new w5 #[.int .u16 0, .int .u16 0, .int .u32 0, .int .u32 0, .int .u8 0, .int .u8 0, .int .u16 0, .int .u16 0, .int .u16 0, .string { data := #[] }] 25; have xx0 : World.cell? _ ⟨w5.heap.size, 0, none⟩ = some (.int .u16 0) := dn.at_ 0; have yy0 := dn.free 0; have xx1 : World.cell? _ ⟨w5.heap.size, 1, none⟩ = some (.int .u16 0) := dn.at_ 1; have yy1 := dn.free 1; have xx2 : World.cell? _ ⟨w5.heap.size, 2, none⟩ = some (.int .u32 0) := dn.at_ 2; have yy2 := dn.free 2; have xx3 : World.cell? _ ⟨w5.heap.size, 3, none⟩ = some (.int .u32 0) := dn.at_ 3; have yy3 := dn.free 3; have xx4 : World.cell? _ ⟨w5.heap.size, 4, none⟩ = some (.int .u8 0) := dn.at_ 4; have yy4 := dn.free 4; have xx5 : World.cell? _ ⟨w5.heap.size, 5, none⟩ = some (.int .u8 0) := dn.at_ 5; have yy5 := dn.free 5; have xx6 : World.cell? _ ⟨w5.heap.size, 6, none⟩ = some (.int .u16 0) := dn.at_ 6; have yy6 := dn.free 6; have xx7 : World.cell? _ ⟨w5.heap.size, 7, none⟩ = some (.int .u16 0) := dn.at_ 7; have yy7 := dn.free 7; have xx8 : World.cell? _ ⟨w5.heap.size, 8, none⟩ = some (.int .u16 0) := dn.at_ 8; have yy8 := dn.free 8; have xx9 : World.cell? _ ⟨w5.heap.size, 9, none⟩ = some (.string { data := #[] }) := dn.at_ 9; have yy9 := dn.free 9))
  all_goals
    replace b5 : Below w.heap.size w w5 := bstep (by (repeat' (first | with_reducible exact b4 | with_reducible exact Below.refl _ _ | with_reducible refine Below.setCell ?_ (by first | exact Nat.le_refl _ | (dsimp only; omega)) _ | with_reducible refine bstep ?_ (fresh_below _ _) | with_reducible refine Below.drew ?_))) b5
    have z5 : w.heap.size ≤ w5.heap.size := b5.size
    clear x0 x1 x2 x3 x4 x5 x6 x7 x8 x9 y0 y1 y2 y3 y4 y5 y6 y7 y8 y9 xx0 xx1 xx2 xx3 xx4 xx5 xx6 xx7 xx8 xx9 yy0 yy1 yy2 yy3 yy4 yy5 yy6 yy7 yy8 yy9 dz dn
    go_wp2_with fail
    (with_reducible refine (C6.out _).mono ?_)
    rintro e w6 ⟨rfl, b6⟩
    replace b6 : Below w.heap.size w w6 := by (refine bstep ?_ b6); (repeat' (first | with_reducible exact b5 | with_reducible exact Below.refl _ _ | with_reducible refine Below.setCell ?_ (by first | exact Nat.le_refl _ | (dsimp only; omega)) _ | with_reducible refine bstep ?_ (fresh_below _ _) | with_reducible refine Below.drew ?_))
    have z6 : w.heap.size ≤ w6.heap.size := b6.size
    go_wp2_with fail
    (with_reducible refine (C7.out _).mono ?_)
    rintro e w7 ⟨rfl, b7⟩
    replace b7 : Below w.heap.size w w7 := by (refine bstep ?_ b7); (repeat' (first | with_reducible exact b6 | with_reducible exact Below.refl _ _ | with_reducible refine Below.setCell ?_ (by first | exact Nat.le_refl _ | (dsimp only; omega)) _ | with_reducible refine bstep ?_ (fresh_below _ _) | with_reducible refine Below.drew ?_))
    have z7 : w.heap.size ≤ w7.heap.size := b7.size
    go_wp2_with fail
    (with_reducible refine (C8.out _).mono ?_)
    rintro e w8 ⟨rfl, b8⟩
    replace b8 : Below w.heap.size w w8 := by (refine bstep ?_ b8); (repeat' (first | with_reducible exact b7 | with_reducible exact Below.refl _ _ | with_reducible refine Below.setCell ?_ (by first | exact Nat.le_refl _ | (dsimp only; omega)) _ | with_reducible refine bstep ?_ (fresh_below _ _) | with_reducible refine Below.drew ?_))
    have z8 : w.heap.size ≤ w8.heap.size := b8.size
    go_wp2_with fail
    go_ret
    exact ⟨rfl, (by (repeat' (first | with_reducible exact b8 | with_reducible exact Below.refl _ _ | with_reducible refine Below.setCell ?_ (by first | exact Nat.le_refl _ | (dsimp only; omega)) _ | with_reducible refine bstep ?_ (fresh_below _ _) | with_reducible refine Below.drew ?_)))⟩

set_option maxHeartbeats 2000000 in
theorem TcpSums_walk (a b : Int) (s : ByteArray) (w : World) (ha : 0 ≤ a ∧ a ≤ 4294967295) (hb : 0 ≤ b ∧ b ≤ 4294967295) (hs : s.size ≤ 140737488351232) :
    Calls Try.prog 4 #[.int .u32 a, .int .u32 b, .string s] w (Ret (.bool true) w) := by
  by_cases g1 : 600 < s.size
  · go_enter Try.func4, Try.ntmps4
    go_wp2_with fail
    (with_reducible refine (begun _).mono ?_)
    rintro e w1 ⟨rfl, b1⟩
    replace b1 : Below w.heap.size w w1 := by (refine bstep ?_ b1); (repeat' (first | with_reducible exact Below.refl _ _ | with_reducible refine Below.setCell ?_ (by first | exact Nat.le_refl _ | (dsimp only; omega)) _ | with_reducible refine bstep ?_ (fresh_below _ _) | with_reducible refine Below.drew ?_))
    have z1 : w.heap.size ≤ w1.heap.size := b1.size
    go_wp2_with fail
    go_ret
    exact ⟨rfl, (by (repeat' (first | with_reducible exact b1 | with_reducible exact Below.refl _ _ | with_reducible refine Below.setCell ?_ (by first | exact Nat.le_refl _ | (dsimp only; omega)) _ | with_reducible refine bstep ?_ (fresh_below _ _) | with_reducible refine Below.drew ?_)))⟩
  · have c1 := fun w => t_Check a b s w ha hb hs
    have c2 := fun w => r6_Check a b s w ha hb hs
    have c3 := fun w => t_Seal a b s w ha hb hs
    have c4 := fun w => r6_Seal a b s w ha hb hs
    obtain ⟨x, hx⟩ : ∃ x, x = tcpOk a b s := ⟨_, rfl⟩
    obtain ⟨t, ht⟩ : ∃ t, t = S (tcpSeal a b (L s)) := ⟨_, rfl⟩
    rw [← hx] at c1 c2
    rw [← ht] at c3 c4
    have C1 := hide c1; have C2 := hide c2; have C3 := hide c3; have C4 := hide c4
    clear c1 c2 c3 c4 hx ht
    have q1 : (x == x) = true := by simp
    go_enter Try.func4, Try.ntmps4
    go_wp2_with fail
    (with_reducible refine (C1.out _).mono ?_)
    rintro e w1 ⟨rfl, b1⟩
    replace b1 : Below w.heap.size w w1 := by (refine bstep ?_ b1); (repeat' (first | with_reducible exact Below.refl _ _ | with_reducible refine Below.setCell ?_ (by first | exact Nat.le_refl _ | (dsimp only; omega)) _ | with_reducible refine bstep ?_ (fresh_below _ _) | with_reducible refine Below.drew ?_))
    have z1 : w.heap.size ≤ w1.heap.size := b1.size
    go_wp2_with fail
    (with_reducible refine (C2.out _).mono ?_)
    rintro e w2 ⟨rfl, b2⟩
    replace b2 : Below w.heap.size w w2 := by (refine bstep ?_ b2); (repeat' (first | with_reducible exact b1 | with_reducible exact Below.refl _ _ | with_reducible refine Below.setCell ?_ (by first | exact Nat.le_refl _ | (dsimp only; omega)) _ | with_reducible refine bstep ?_ (fresh_below _ _) | with_reducible refine Below.drew ?_))
    have z2 : w.heap.size ≤ w2.heap.size := b2.size
    go_wp2_with fail
    (with_reducible refine (C3.out _).mono ?_)
    rintro e w3 ⟨rfl, b3⟩
    replace b3 : Below w.heap.size w w3 := by (refine bstep ?_ b3); (repeat' (first | with_reducible exact b2 | with_reducible exact Below.refl _ _ | with_reducible refine Below.setCell ?_ (by first | exact Nat.le_refl _ | (dsimp only; omega)) _ | with_reducible refine bstep ?_ (fresh_below _ _) | with_reducible refine Below.drew ?_))
    have z3 : w.heap.size ≤ w3.heap.size := b3.size
    go_wp2_with fail
    (with_reducible refine (C4.out _).mono ?_)
    rintro e w4 ⟨rfl, b4⟩
    replace b4 : Below w.heap.size w w4 := by (refine bstep ?_ b4); (repeat' (first | with_reducible exact b3 | with_reducible exact Below.refl _ _ | with_reducible refine Below.setCell ?_ (by first | exact Nat.le_refl _ | (dsimp only; omega)) _ | with_reducible refine bstep ?_ (fresh_below _ _) | with_reducible refine Below.drew ?_))
    have z4 : w.heap.size ≤ w4.heap.size := b4.size
    go_wp2_with fail
    (with_reducible refine (begun _).mono ?_)
    rintro e w5 ⟨rfl, b5⟩
    replace b5 : Below w.heap.size w w5 := by (refine bstep ?_ b5); (repeat' (first | with_reducible exact b4 | with_reducible exact Below.refl _ _ | with_reducible refine Below.setCell ?_ (by first | exact Nat.le_refl _ | (dsimp only; omega)) _ | with_reducible refine bstep ?_ (fresh_below _ _) | with_reducible refine Below.drew ?_))
    have z5 : w.heap.size ≤ w5.heap.size := b5.size
    go_wp2_with fail
    go_ret
    exact ⟨rfl, (by (repeat' (first | with_reducible exact b5 | with_reducible exact Below.refl _ _ | with_reducible refine Below.setCell ?_ (by first | exact Nat.le_refl _ | (dsimp only; omega)) _ | with_reducible refine bstep ?_ (fresh_below _ _) | with_reducible refine Below.drew ?_)))⟩
end Go.Proofs.Ytlmpoikjjidgiaa
