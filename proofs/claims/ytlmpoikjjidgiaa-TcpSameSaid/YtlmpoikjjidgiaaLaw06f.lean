/- Segments, the statements TcpBack and TcpSame: the walks. -/
import Derived.Test.YtlmpoikjjidgiaaLaw06e
set_option linter.unusedVariables false
namespace Go.Proofs.Ytlmpoikjjidgiaa
open Go.RowKit
attribute [local go_sem] Oper.semAt_some

set_option maxRecDepth 100000 in
set_option maxHeartbeats 2000000 in
theorem TcpSame_walk (s : ByteArray) (w : World) (hs : s.size ≤ 140737488351232) :
    Calls Try.prog 6 #[.string s] w (Ret (.bool true) w) := by
  by_cases k1 : 600 < s.size
  · go_enter Try.func6, Try.ntmps6
    go_wp2_with fail
    (with_reducible refine (begun _).mono ?_)
    rintro e w1 ⟨rfl, b1⟩
    replace b1 : Below w.heap.size w w1 := by (refine bstep ?_ b1); (repeat' (first | with_reducible exact Below.refl _ _ | with_reducible refine Below.setCell ?_ (by first | exact Nat.le_refl _ | (dsimp only; omega)) _ | with_reducible refine bstep ?_ (fresh_below _ _) | with_reducible refine Below.drew ?_))
    have z1 : w.heap.size ≤ w1.heap.size := b1.size
    go_wp2_with fail
    go_ret
    exact ⟨rfl, (by (repeat' (first | with_reducible exact b1 | with_reducible exact Below.refl _ _ | with_reducible refine Below.setCell ?_ (by first | exact Nat.le_refl _ | (dsimp only; omega)) _ | with_reducible refine bstep ?_ (fresh_below _ _) | with_reducible refine Below.drew ?_)))⟩
  have k4 : ¬ 600 < (s.size : Int) := by omega
  by_cases hi : tcpIs s = true
  · have c1 := fun W => t_Parse_yes s W hs hi
    obtain ⟨hm, hsame⟩ := tcp_same s hi
    have hq : (s.extract (tcpOwn (L s)).toNat s.size).size ≤ 140737488351232 := by rw [ByteArray.size_extract]; omega
    have c3 := fun W => t_Put (segOf s) (s.extract (tcpOwn (L s)).toNat s.size) W (segOf_ok hs) hq
    rw [show (segOf s).text _ = _ from if_pos hm, show (segOf s).err = _ from if_pos hm, hsame] at c3
    obtain ⟨g, hg⟩ : ∃ g, g = segOf s := ⟨_, rfl⟩
    obtain ⟨q, hq2⟩ : ∃ q, q = s.extract (tcpOwn (L s)).toNat s.size := ⟨_, rfl⟩
    rw [← hg, ← hq2] at c1 c3
    clear hg hq2 hm hsame hq hi
    obtain ⟨g0, g1, g2, g3, g4, g5, g6, g7, g8, go⟩ := g
    simp only [Seg.cells] at c1 c3
    have C1 := hide c1; have C3 := hide c3
    clear c1 c3
    go_enter Try.func6, Try.ntmps6
    go_wp2_with fail
    (with_reducible refine (C1.out _).mono ?_)
    rintro e w1 ⟨rfl, b1⟩
    have d1 := Cells.new w1 #[.int .u16 g0, .int .u16 g1, .int .u32 g2, .int .u32 g3, .int .u8 g4, .int .u8 g5, .int .u16 g6, .int .u16 g7, .int .u16 g8, .string go] 25
    have z1 := b1.size
    have xd1_0 : (w1.alloc (.cells #[.int .u16 g0, .int .u16 g1, .int .u32 g2, .int .u32 g3, .int .u8 g4, .int .u8 g5, .int .u16 g6, .int .u16 g7, .int .u16 g8, .string go] 25)).cell? ⟨w1.heap.size, 0, none⟩ = some (.int .u16 g0) := d1.at_ 0
    have xd1_1 : (w1.alloc (.cells #[.int .u16 g0, .int .u16 g1, .int .u32 g2, .int .u32 g3, .int .u8 g4, .int .u8 g5, .int .u16 g6, .int .u16 g7, .int .u16 g8, .string go] 25)).cell? ⟨w1.heap.size, 1, none⟩ = some (.int .u16 g1) := d1.at_ 1
    have xd1_2 : (w1.alloc (.cells #[.int .u16 g0, .int .u16 g1, .int .u32 g2, .int .u32 g3, .int .u8 g4, .int .u8 g5, .int .u16 g6, .int .u16 g7, .int .u16 g8, .string go] 25)).cell? ⟨w1.heap.size, 2, none⟩ = some (.int .u32 g2) := d1.at_ 2
    have xd1_3 : (w1.alloc (.cells #[.int .u16 g0, .int .u16 g1, .int .u32 g2, .int .u32 g3, .int .u8 g4, .int .u8 g5, .int .u16 g6, .int .u16 g7, .int .u16 g8, .string go] 25)).cell? ⟨w1.heap.size, 3, none⟩ = some (.int .u32 g3) := d1.at_ 3
    have xd1_4 : (w1.alloc (.cells #[.int .u16 g0, .int .u16 g1, .int .u32 g2, .int .u32 g3, .int .u8 g4, .int .u8 g5, .int .u16 g6, .int .u16 g7, .int .u16 g8, .string go] 25)).cell? ⟨w1.heap.size, 4, none⟩ = some (.int .u8 g4) := d1.at_ 4
    have xd1_5 : (w1.alloc (.cells #[.int .u16 g0, .int .u16 g1, .int .u32 g2, .int .u32 g3, .int .u8 g4, .int .u8 g5, .int .u16 g6, .int .u16 g7, .int .u16 g8, .string go] 25)).cell? ⟨w1.heap.size, 5, none⟩ = some (.int .u8 g5) := d1.at_ 5
    have xd1_6 : (w1.alloc (.cells #[.int .u16 g0, .int .u16 g1, .int .u32 g2, .int .u32 g3, .int .u8 g4, .int .u8 g5, .int .u16 g6, .int .u16 g7, .int .u16 g8, .string go] 25)).cell? ⟨w1.heap.size, 6, none⟩ = some (.int .u16 g6) := d1.at_ 6
    have xd1_7 : (w1.alloc (.cells #[.int .u16 g0, .int .u16 g1, .int .u32 g2, .int .u32 g3, .int .u8 g4, .int .u8 g5, .int .u16 g6, .int .u16 g7, .int .u16 g8, .string go] 25)).cell? ⟨w1.heap.size, 7, none⟩ = some (.int .u16 g7) := d1.at_ 7
    have xd1_8 : (w1.alloc (.cells #[.int .u16 g0, .int .u16 g1, .int .u32 g2, .int .u32 g3, .int .u8 g4, .int .u8 g5, .int .u16 g6, .int .u16 g7, .int .u16 g8, .string go] 25)).cell? ⟨w1.heap.size, 8, none⟩ = some (.int .u16 g8) := d1.at_ 8
    have xd1_9 : (w1.alloc (.cells #[.int .u16 g0, .int .u16 g1, .int .u32 g2, .int .u32 g3, .int .u8 g4, .int .u8 g5, .int .u16 g6, .int .u16 g7, .int .u16 g8, .string go] 25)).cell? ⟨w1.heap.size, 9, none⟩ = some (.string go) := d1.at_ 9
    go_wp2_with fail
    (with_reducible refine (C3.out _).mono ?_)
    rintro e w3 ⟨rfl, b3⟩
    replace b3 : Below w.heap.size w w3 := bstep (by (repeat' (first | with_reducible exact b1 | with_reducible exact Below.refl _ _ | with_reducible refine Below.setCell ?_ (by first | exact Nat.le_refl _ | (dsimp only; omega)) _ | with_reducible refine bstep ?_ (fresh_below _ _) | with_reducible refine Below.drew ?_))) b3
    go_wp2_with fail
    (with_reducible refine (begun _).mono ?_)
    rintro e w5 ⟨rfl, b5⟩
    replace b5 : Below w.heap.size w w5 := by (refine bstep ?_ b5); (repeat' (first | with_reducible exact b3 | with_reducible exact Below.refl _ _ | with_reducible refine Below.setCell ?_ (by first | exact Nat.le_refl _ | (dsimp only; omega)) _ | with_reducible refine bstep ?_ (fresh_below _ _) | with_reducible refine Below.drew ?_))
    have z5 : w.heap.size ≤ w5.heap.size := b5.size
    go_wp2_with fail
    go_ret
    exact ⟨rfl, (by (repeat' (first | with_reducible exact b5 | with_reducible exact Below.refl _ _ | with_reducible refine Below.setCell ?_ (by first | exact Nat.le_refl _ | (dsimp only; omega)) _ | with_reducible refine bstep ?_ (fresh_below _ _) | with_reducible refine Below.drew ?_)))⟩
  · have c1 := fun W => t_Parse_no s W hs (by simpa using hi)
    have C1 := hide c1
    clear c1 hi
    go_enter Try.func6, Try.ntmps6
    go_wp2_with fail
    (with_reducible refine (C1.out _).mono ?_)
    rintro e w1 ⟨rfl, b1⟩
    have d1 := Cells.new w1 #[.int .u16 0, .int .u16 0, .int .u32 0, .int .u32 0, .int .u8 0, .int .u8 0, .int .u16 0, .int .u16 0, .int .u16 0, .string { data := #[] }] 25
    have z1 := b1.size
    have xd1_0 : (w1.alloc (.cells #[.int .u16 0, .int .u16 0, .int .u32 0, .int .u32 0, .int .u8 0, .int .u8 0, .int .u16 0, .int .u16 0, .int .u16 0, .string { data := #[] }] 25)).cell? ⟨w1.heap.size, 0, none⟩ = some (.int .u16 0) := d1.at_ 0
    have xd1_1 : (w1.alloc (.cells #[.int .u16 0, .int .u16 0, .int .u32 0, .int .u32 0, .int .u8 0, .int .u8 0, .int .u16 0, .int .u16 0, .int .u16 0, .string { data := #[] }] 25)).cell? ⟨w1.heap.size, 1, none⟩ = some (.int .u16 0) := d1.at_ 1
    have xd1_2 : (w1.alloc (.cells #[.int .u16 0, .int .u16 0, .int .u32 0, .int .u32 0, .int .u8 0, .int .u8 0, .int .u16 0, .int .u16 0, .int .u16 0, .string { data := #[] }] 25)).cell? ⟨w1.heap.size, 2, none⟩ = some (.int .u32 0) := d1.at_ 2
    have xd1_3 : (w1.alloc (.cells #[.int .u16 0, .int .u16 0, .int .u32 0, .int .u32 0, .int .u8 0, .int .u8 0, .int .u16 0, .int .u16 0, .int .u16 0, .string { data := #[] }] 25)).cell? ⟨w1.heap.size, 3, none⟩ = some (.int .u32 0) := d1.at_ 3
    have xd1_4 : (w1.alloc (.cells #[.int .u16 0, .int .u16 0, .int .u32 0, .int .u32 0, .int .u8 0, .int .u8 0, .int .u16 0, .int .u16 0, .int .u16 0, .string { data := #[] }] 25)).cell? ⟨w1.heap.size, 4, none⟩ = some (.int .u8 0) := d1.at_ 4
    have xd1_5 : (w1.alloc (.cells #[.int .u16 0, .int .u16 0, .int .u32 0, .int .u32 0, .int .u8 0, .int .u8 0, .int .u16 0, .int .u16 0, .int .u16 0, .string { data := #[] }] 25)).cell? ⟨w1.heap.size, 5, none⟩ = some (.int .u8 0) := d1.at_ 5
    have xd1_6 : (w1.alloc (.cells #[.int .u16 0, .int .u16 0, .int .u32 0, .int .u32 0, .int .u8 0, .int .u8 0, .int .u16 0, .int .u16 0, .int .u16 0, .string { data := #[] }] 25)).cell? ⟨w1.heap.size, 6, none⟩ = some (.int .u16 0) := d1.at_ 6
    have xd1_7 : (w1.alloc (.cells #[.int .u16 0, .int .u16 0, .int .u32 0, .int .u32 0, .int .u8 0, .int .u8 0, .int .u16 0, .int .u16 0, .int .u16 0, .string { data := #[] }] 25)).cell? ⟨w1.heap.size, 7, none⟩ = some (.int .u16 0) := d1.at_ 7
    have xd1_8 : (w1.alloc (.cells #[.int .u16 0, .int .u16 0, .int .u32 0, .int .u32 0, .int .u8 0, .int .u8 0, .int .u16 0, .int .u16 0, .int .u16 0, .string { data := #[] }] 25)).cell? ⟨w1.heap.size, 8, none⟩ = some (.int .u16 0) := d1.at_ 8
    have xd1_9 : (w1.alloc (.cells #[.int .u16 0, .int .u16 0, .int .u32 0, .int .u32 0, .int .u8 0, .int .u8 0, .int .u16 0, .int .u16 0, .int .u16 0, .string { data := #[] }] 25)).cell? ⟨w1.heap.size, 9, none⟩ = some (.string { data := #[] }) := d1.at_ 9
    go_wp2_with fail
    (with_reducible refine (begun _).mono ?_)
    rintro e w5 ⟨rfl, b5⟩
    replace b5 : Below w.heap.size w w5 := by (refine bstep ?_ b5); (repeat' (first | with_reducible exact b1 | with_reducible exact Below.refl _ _ | with_reducible refine Below.setCell ?_ (by first | exact Nat.le_refl _ | (dsimp only; omega)) _ | with_reducible refine bstep ?_ (fresh_below _ _) | with_reducible refine Below.drew ?_))
    have z5 : w.heap.size ≤ w5.heap.size := b5.size
    go_wp2_with fail
    go_ret
    exact ⟨rfl, (by (repeat' (first | with_reducible exact b5 | with_reducible exact Below.refl _ _ | with_reducible refine Below.setCell ?_ (by first | exact Nat.le_refl _ | (dsimp only; omega)) _ | with_reducible refine bstep ?_ (fresh_below _ _) | with_reducible refine Below.drew ?_)))⟩
end Go.Proofs.Ytlmpoikjjidgiaa
