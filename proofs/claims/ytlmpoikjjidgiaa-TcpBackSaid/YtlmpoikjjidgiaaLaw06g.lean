/- Segments, the statement TcpBack: the walk. -/
import Derived.Test.YtlmpoikjjidgiaaLaw06e
set_option linter.unusedVariables false
namespace Go.Proofs.Ytlmpoikjjidgiaa
open Go.RowKit
attribute [local go_sem] Oper.semAt_some

set_option maxRecDepth 100000 in
set_option maxHeartbeats 2000000 in
theorem TcpBack_no (h0 h1 h2 h3 h4 h5 h6 h7 h8 : Int) (o p : ByteArray) (w : World) (hk : (Seg.mk h0 h1 h2 h3 h4 h5 h6 h7 h8 o).Ok) (hp : p.size ≤ 140737488351232) (k2 : ¬ 600 < (p.size : Int)) (k3 : ¬ 600 < (o.size : Int)) (hm : (Seg.mk h0 h1 h2 h3 h4 h5 h6 h7 h8 o).may = false) :
    Calls Try.prog 5 #[.agg #[.int .u16 h0, .int .u16 h1, .int .u32 h2, .int .u32 h3, .int .u8 h4, .int .u8 h5, .int .u16 h6, .int .u16 h7, .int .u16 h8, .string o], .string p] w (Ret (.bool true) w) := by
  have l0 : 0 ≤ h4 ∧ h4 ≤ 255 := hk.2.2.2.2.1
  have ho : o.size ≤ 140737488351232 := hk.2.2.2.2.2.2.2.2.2
  have c3 := fun W => t_Put (Seg.mk h0 h1 h2 h3 h4 h5 h6 h7 h8 o) p W hk hp
  rw [show (Seg.mk h0 h1 h2 h3 h4 h5 h6 h7 h8 o).text p = _ from if_neg (by simpa using hm), show (Seg.mk h0 h1 h2 h3 h4 h5 h6 h7 h8 o).err = _ from if_neg (by simpa using hm)] at c3
  simp only [Seg.cells] at c3
  have C3 := hide c3
  have hcase : ¬ h4 < 16 ∨ (h4 < 16 ∧ ¬ (o.size : Int) ≤ 40) ∨ (h4 < 16 ∧ (o.size : Int) ≤ 40 ∧ ¬ (o.size : Int) % 4 = 0) := by
    unfold Seg.may at hm; simp at hm; omega
  clear c3 hk hm
  rcases hcase with q1 | ⟨q1, q2⟩ | ⟨q1, q2, q3⟩
  · go_enter Try.func5, Try.ntmps5
    have d0 := Cells.new w #[.int .u16 h0, .int .u16 h1, .int .u32 h2, .int .u32 h3, .int .u8 h4, .int .u8 h5, .int .u16 h6, .int .u16 h7, .int .u16 h8, .string o] 25
    have xd0_0 : (w.alloc (.cells #[.int .u16 h0, .int .u16 h1, .int .u32 h2, .int .u32 h3, .int .u8 h4, .int .u8 h5, .int .u16 h6, .int .u16 h7, .int .u16 h8, .string o] 25)).cell? ⟨w.heap.size, 0, none⟩ = some (.int .u16 h0) := d0.at_ 0
    have xd0_1 : (w.alloc (.cells #[.int .u16 h0, .int .u16 h1, .int .u32 h2, .int .u32 h3, .int .u8 h4, .int .u8 h5, .int .u16 h6, .int .u16 h7, .int .u16 h8, .string o] 25)).cell? ⟨w.heap.size, 1, none⟩ = some (.int .u16 h1) := d0.at_ 1
    have xd0_2 : (w.alloc (.cells #[.int .u16 h0, .int .u16 h1, .int .u32 h2, .int .u32 h3, .int .u8 h4, .int .u8 h5, .int .u16 h6, .int .u16 h7, .int .u16 h8, .string o] 25)).cell? ⟨w.heap.size, 2, none⟩ = some (.int .u32 h2) := d0.at_ 2
    have xd0_3 : (w.alloc (.cells #[.int .u16 h0, .int .u16 h1, .int .u32 h2, .int .u32 h3, .int .u8 h4, .int .u8 h5, .int .u16 h6, .int .u16 h7, .int .u16 h8, .string o] 25)).cell? ⟨w.heap.size, 3, none⟩ = some (.int .u32 h3) := d0.at_ 3
    have xd0_4 : (w.alloc (.cells #[.int .u16 h0, .int .u16 h1, .int .u32 h2, .int .u32 h3, .int .u8 h4, .int .u8 h5, .int .u16 h6, .int .u16 h7, .int .u16 h8, .string o] 25)).cell? ⟨w.heap.size, 4, none⟩ = some (.int .u8 h4) := d0.at_ 4
    have xd0_5 : (w.alloc (.cells #[.int .u16 h0, .int .u16 h1, .int .u32 h2, .int .u32 h3, .int .u8 h4, .int .u8 h5, .int .u16 h6, .int .u16 h7, .int .u16 h8, .string o] 25)).cell? ⟨w.heap.size, 5, none⟩ = some (.int .u8 h5) := d0.at_ 5
    have xd0_6 : (w.alloc (.cells #[.int .u16 h0, .int .u16 h1, .int .u32 h2, .int .u32 h3, .int .u8 h4, .int .u8 h5, .int .u16 h6, .int .u16 h7, .int .u16 h8, .string o] 25)).cell? ⟨w.heap.size, 6, none⟩ = some (.int .u16 h6) := d0.at_ 6
    have xd0_7 : (w.alloc (.cells #[.int .u16 h0, .int .u16 h1, .int .u32 h2, .int .u32 h3, .int .u8 h4, .int .u8 h5, .int .u16 h6, .int .u16 h7, .int .u16 h8, .string o] 25)).cell? ⟨w.heap.size, 7, none⟩ = some (.int .u16 h7) := d0.at_ 7
    have xd0_8 : (w.alloc (.cells #[.int .u16 h0, .int .u16 h1, .int .u32 h2, .int .u32 h3, .int .u8 h4, .int .u8 h5, .int .u16 h6, .int .u16 h7, .int .u16 h8, .string o] 25)).cell? ⟨w.heap.size, 8, none⟩ = some (.int .u16 h8) := d0.at_ 8
    have xd0_9 : (w.alloc (.cells #[.int .u16 h0, .int .u16 h1, .int .u32 h2, .int .u32 h3, .int .u8 h4, .int .u8 h5, .int .u16 h6, .int .u16 h7, .int .u16 h8, .string o] 25)).cell? ⟨w.heap.size, 9, none⟩ = some (.string o) := d0.at_ 9
    go_wp2_with fail
    (with_reducible refine (C3.out _).mono ?_)
    rintro e w3 ⟨rfl, b3⟩
    replace d0 := Cells.below b3 d0
    replace b3 : Below w.heap.size w w3 := bstep (fresh_below _ _) b3
    clear xd0_0 xd0_1 xd0_2 xd0_3 xd0_4 xd0_5 xd0_6 xd0_7 xd0_8 xd0_9
    have xd0_0 : w3.cell? ⟨w.heap.size, 0, none⟩ = some (.int .u16 h0) := d0.at_ 0
    have xd0_1 : w3.cell? ⟨w.heap.size, 1, none⟩ = some (.int .u16 h1) := d0.at_ 1
    have xd0_2 : w3.cell? ⟨w.heap.size, 2, none⟩ = some (.int .u32 h2) := d0.at_ 2
    have xd0_3 : w3.cell? ⟨w.heap.size, 3, none⟩ = some (.int .u32 h3) := d0.at_ 3
    have xd0_4 : w3.cell? ⟨w.heap.size, 4, none⟩ = some (.int .u8 h4) := d0.at_ 4
    have xd0_5 : w3.cell? ⟨w.heap.size, 5, none⟩ = some (.int .u8 h5) := d0.at_ 5
    have xd0_6 : w3.cell? ⟨w.heap.size, 6, none⟩ = some (.int .u16 h6) := d0.at_ 6
    have xd0_7 : w3.cell? ⟨w.heap.size, 7, none⟩ = some (.int .u16 h7) := d0.at_ 7
    have xd0_8 : w3.cell? ⟨w.heap.size, 8, none⟩ = some (.int .u16 h8) := d0.at_ 8
    have xd0_9 : w3.cell? ⟨w.heap.size, 9, none⟩ = some (.string o) := d0.at_ 9
    go_wp2_with fail
    (with_reducible refine (begun _).mono ?_)
    rintro e w5 ⟨rfl, b5⟩
    replace b5 : Below w.heap.size w w5 := by (refine bstep ?_ b5); (repeat' (first | with_reducible exact b3 | with_reducible exact Below.refl _ _ | with_reducible refine Below.setCell ?_ (by first | exact Nat.le_refl _ | (dsimp only; omega)) _ | with_reducible refine bstep ?_ (fresh_below _ _) | with_reducible refine Below.drew ?_))
    have z5 : w.heap.size ≤ w5.heap.size := b5.size
    go_wp2_with fail
    go_ret
    exact ⟨rfl, (by (repeat' (first | with_reducible exact b5 | with_reducible exact Below.refl _ _ | with_reducible refine Below.setCell ?_ (by first | exact Nat.le_refl _ | (dsimp only; omega)) _ | with_reducible refine bstep ?_ (fresh_below _ _) | with_reducible refine Below.drew ?_)))⟩
  · go_enter Try.func5, Try.ntmps5
    have d0 := Cells.new w #[.int .u16 h0, .int .u16 h1, .int .u32 h2, .int .u32 h3, .int .u8 h4, .int .u8 h5, .int .u16 h6, .int .u16 h7, .int .u16 h8, .string o] 25
    have xd0_0 : (w.alloc (.cells #[.int .u16 h0, .int .u16 h1, .int .u32 h2, .int .u32 h3, .int .u8 h4, .int .u8 h5, .int .u16 h6, .int .u16 h7, .int .u16 h8, .string o] 25)).cell? ⟨w.heap.size, 0, none⟩ = some (.int .u16 h0) := d0.at_ 0
    have xd0_1 : (w.alloc (.cells #[.int .u16 h0, .int .u16 h1, .int .u32 h2, .int .u32 h3, .int .u8 h4, .int .u8 h5, .int .u16 h6, .int .u16 h7, .int .u16 h8, .string o] 25)).cell? ⟨w.heap.size, 1, none⟩ = some (.int .u16 h1) := d0.at_ 1
    have xd0_2 : (w.alloc (.cells #[.int .u16 h0, .int .u16 h1, .int .u32 h2, .int .u32 h3, .int .u8 h4, .int .u8 h5, .int .u16 h6, .int .u16 h7, .int .u16 h8, .string o] 25)).cell? ⟨w.heap.size, 2, none⟩ = some (.int .u32 h2) := d0.at_ 2
    have xd0_3 : (w.alloc (.cells #[.int .u16 h0, .int .u16 h1, .int .u32 h2, .int .u32 h3, .int .u8 h4, .int .u8 h5, .int .u16 h6, .int .u16 h7, .int .u16 h8, .string o] 25)).cell? ⟨w.heap.size, 3, none⟩ = some (.int .u32 h3) := d0.at_ 3
    have xd0_4 : (w.alloc (.cells #[.int .u16 h0, .int .u16 h1, .int .u32 h2, .int .u32 h3, .int .u8 h4, .int .u8 h5, .int .u16 h6, .int .u16 h7, .int .u16 h8, .string o] 25)).cell? ⟨w.heap.size, 4, none⟩ = some (.int .u8 h4) := d0.at_ 4
    have xd0_5 : (w.alloc (.cells #[.int .u16 h0, .int .u16 h1, .int .u32 h2, .int .u32 h3, .int .u8 h4, .int .u8 h5, .int .u16 h6, .int .u16 h7, .int .u16 h8, .string o] 25)).cell? ⟨w.heap.size, 5, none⟩ = some (.int .u8 h5) := d0.at_ 5
    have xd0_6 : (w.alloc (.cells #[.int .u16 h0, .int .u16 h1, .int .u32 h2, .int .u32 h3, .int .u8 h4, .int .u8 h5, .int .u16 h6, .int .u16 h7, .int .u16 h8, .string o] 25)).cell? ⟨w.heap.size, 6, none⟩ = some (.int .u16 h6) := d0.at_ 6
    have xd0_7 : (w.alloc (.cells #[.int .u16 h0, .int .u16 h1, .int .u32 h2, .int .u32 h3, .int .u8 h4, .int .u8 h5, .int .u16 h6, .int .u16 h7, .int .u16 h8, .string o] 25)).cell? ⟨w.heap.size, 7, none⟩ = some (.int .u16 h7) := d0.at_ 7
    have xd0_8 : (w.alloc (.cells #[.int .u16 h0, .int .u16 h1, .int .u32 h2, .int .u32 h3, .int .u8 h4, .int .u8 h5, .int .u16 h6, .int .u16 h7, .int .u16 h8, .string o] 25)).cell? ⟨w.heap.size, 8, none⟩ = some (.int .u16 h8) := d0.at_ 8
    have xd0_9 : (w.alloc (.cells #[.int .u16 h0, .int .u16 h1, .int .u32 h2, .int .u32 h3, .int .u8 h4, .int .u8 h5, .int .u16 h6, .int .u16 h7, .int .u16 h8, .string o] 25)).cell? ⟨w.heap.size, 9, none⟩ = some (.string o) := d0.at_ 9
    go_wp2_with fail
    (with_reducible refine (C3.out _).mono ?_)
    rintro e w3 ⟨rfl, b3⟩
    replace d0 := Cells.below b3 d0
    replace b3 : Below w.heap.size w w3 := bstep (fresh_below _ _) b3
    clear xd0_0 xd0_1 xd0_2 xd0_3 xd0_4 xd0_5 xd0_6 xd0_7 xd0_8 xd0_9
    have xd0_0 : w3.cell? ⟨w.heap.size, 0, none⟩ = some (.int .u16 h0) := d0.at_ 0
    have xd0_1 : w3.cell? ⟨w.heap.size, 1, none⟩ = some (.int .u16 h1) := d0.at_ 1
    have xd0_2 : w3.cell? ⟨w.heap.size, 2, none⟩ = some (.int .u32 h2) := d0.at_ 2
    have xd0_3 : w3.cell? ⟨w.heap.size, 3, none⟩ = some (.int .u32 h3) := d0.at_ 3
    have xd0_4 : w3.cell? ⟨w.heap.size, 4, none⟩ = some (.int .u8 h4) := d0.at_ 4
    have xd0_5 : w3.cell? ⟨w.heap.size, 5, none⟩ = some (.int .u8 h5) := d0.at_ 5
    have xd0_6 : w3.cell? ⟨w.heap.size, 6, none⟩ = some (.int .u16 h6) := d0.at_ 6
    have xd0_7 : w3.cell? ⟨w.heap.size, 7, none⟩ = some (.int .u16 h7) := d0.at_ 7
    have xd0_8 : w3.cell? ⟨w.heap.size, 8, none⟩ = some (.int .u16 h8) := d0.at_ 8
    have xd0_9 : w3.cell? ⟨w.heap.size, 9, none⟩ = some (.string o) := d0.at_ 9
    go_wp2_with fail
    (with_reducible refine (begun _).mono ?_)
    rintro e w5 ⟨rfl, b5⟩
    replace b5 : Below w.heap.size w w5 := by (refine bstep ?_ b5); (repeat' (first | with_reducible exact b3 | with_reducible exact Below.refl _ _ | with_reducible refine Below.setCell ?_ (by first | exact Nat.le_refl _ | (dsimp only; omega)) _ | with_reducible refine bstep ?_ (fresh_below _ _) | with_reducible refine Below.drew ?_))
    have z5 : w.heap.size ≤ w5.heap.size := b5.size
    go_wp2_with fail
    go_ret
    exact ⟨rfl, (by (repeat' (first | with_reducible exact b5 | with_reducible exact Below.refl _ _ | with_reducible refine Below.setCell ?_ (by first | exact Nat.le_refl _ | (dsimp only; omega)) _ | with_reducible refine bstep ?_ (fresh_below _ _) | with_reducible refine Below.drew ?_)))⟩
  · have q4 : ((o.size : Int) % 4 == 0) = false := by simp; omega
    go_enter Try.func5, Try.ntmps5
    have d0 := Cells.new w #[.int .u16 h0, .int .u16 h1, .int .u32 h2, .int .u32 h3, .int .u8 h4, .int .u8 h5, .int .u16 h6, .int .u16 h7, .int .u16 h8, .string o] 25
    have xd0_0 : (w.alloc (.cells #[.int .u16 h0, .int .u16 h1, .int .u32 h2, .int .u32 h3, .int .u8 h4, .int .u8 h5, .int .u16 h6, .int .u16 h7, .int .u16 h8, .string o] 25)).cell? ⟨w.heap.size, 0, none⟩ = some (.int .u16 h0) := d0.at_ 0
    have xd0_1 : (w.alloc (.cells #[.int .u16 h0, .int .u16 h1, .int .u32 h2, .int .u32 h3, .int .u8 h4, .int .u8 h5, .int .u16 h6, .int .u16 h7, .int .u16 h8, .string o] 25)).cell? ⟨w.heap.size, 1, none⟩ = some (.int .u16 h1) := d0.at_ 1
    have xd0_2 : (w.alloc (.cells #[.int .u16 h0, .int .u16 h1, .int .u32 h2, .int .u32 h3, .int .u8 h4, .int .u8 h5, .int .u16 h6, .int .u16 h7, .int .u16 h8, .string o] 25)).cell? ⟨w.heap.size, 2, none⟩ = some (.int .u32 h2) := d0.at_ 2
    have xd0_3 : (w.alloc (.cells #[.int .u16 h0, .int .u16 h1, .int .u32 h2, .int .u32 h3, .int .u8 h4, .int .u8 h5, .int .u16 h6, .int .u16 h7, .int .u16 h8, .string o] 25)).cell? ⟨w.heap.size, 3, none⟩ = some (.int .u32 h3) := d0.at_ 3
    have xd0_4 : (w.alloc (.cells #[.int .u16 h0, .int .u16 h1, .int .u32 h2, .int .u32 h3, .int .u8 h4, .int .u8 h5, .int .u16 h6, .int .u16 h7, .int .u16 h8, .string o] 25)).cell? ⟨w.heap.size, 4, none⟩ = some (.int .u8 h4) := d0.at_ 4
    have xd0_5 : (w.alloc (.cells #[.int .u16 h0, .int .u16 h1, .int .u32 h2, .int .u32 h3, .int .u8 h4, .int .u8 h5, .int .u16 h6, .int .u16 h7, .int .u16 h8, .string o] 25)).cell? ⟨w.heap.size, 5, none⟩ = some (.int .u8 h5) := d0.at_ 5
    have xd0_6 : (w.alloc (.cells #[.int .u16 h0, .int .u16 h1, .int .u32 h2, .int .u32 h3, .int .u8 h4, .int .u8 h5, .int .u16 h6, .int .u16 h7, .int .u16 h8, .string o] 25)).cell? ⟨w.heap.size, 6, none⟩ = some (.int .u16 h6) := d0.at_ 6
    have xd0_7 : (w.alloc (.cells #[.int .u16 h0, .int .u16 h1, .int .u32 h2, .int .u32 h3, .int .u8 h4, .int .u8 h5, .int .u16 h6, .int .u16 h7, .int .u16 h8, .string o] 25)).cell? ⟨w.heap.size, 7, none⟩ = some (.int .u16 h7) := d0.at_ 7
    have xd0_8 : (w.alloc (.cells #[.int .u16 h0, .int .u16 h1, .int .u32 h2, .int .u32 h3, .int .u8 h4, .int .u8 h5, .int .u16 h6, .int .u16 h7, .int .u16 h8, .string o] 25)).cell? ⟨w.heap.size, 8, none⟩ = some (.int .u16 h8) := d0.at_ 8
    have xd0_9 : (w.alloc (.cells #[.int .u16 h0, .int .u16 h1, .int .u32 h2, .int .u32 h3, .int .u8 h4, .int .u8 h5, .int .u16 h6, .int .u16 h7, .int .u16 h8, .string o] 25)).cell? ⟨w.heap.size, 9, none⟩ = some (.string o) := d0.at_ 9
    go_wp2_with fail
    (with_reducible refine (C3.out _).mono ?_)
    rintro e w3 ⟨rfl, b3⟩
    replace d0 := Cells.below b3 d0
    replace b3 : Below w.heap.size w w3 := bstep (fresh_below _ _) b3
    clear xd0_0 xd0_1 xd0_2 xd0_3 xd0_4 xd0_5 xd0_6 xd0_7 xd0_8 xd0_9
    have xd0_0 : w3.cell? ⟨w.heap.size, 0, none⟩ = some (.int .u16 h0) := d0.at_ 0
    have xd0_1 : w3.cell? ⟨w.heap.size, 1, none⟩ = some (.int .u16 h1) := d0.at_ 1
    have xd0_2 : w3.cell? ⟨w.heap.size, 2, none⟩ = some (.int .u32 h2) := d0.at_ 2
    have xd0_3 : w3.cell? ⟨w.heap.size, 3, none⟩ = some (.int .u32 h3) := d0.at_ 3
    have xd0_4 : w3.cell? ⟨w.heap.size, 4, none⟩ = some (.int .u8 h4) := d0.at_ 4
    have xd0_5 : w3.cell? ⟨w.heap.size, 5, none⟩ = some (.int .u8 h5) := d0.at_ 5
    have xd0_6 : w3.cell? ⟨w.heap.size, 6, none⟩ = some (.int .u16 h6) := d0.at_ 6
    have xd0_7 : w3.cell? ⟨w.heap.size, 7, none⟩ = some (.int .u16 h7) := d0.at_ 7
    have xd0_8 : w3.cell? ⟨w.heap.size, 8, none⟩ = some (.int .u16 h8) := d0.at_ 8
    have xd0_9 : w3.cell? ⟨w.heap.size, 9, none⟩ = some (.string o) := d0.at_ 9
    go_wp2_with fail
    (with_reducible refine (begun _).mono ?_)
    rintro e w5 ⟨rfl, b5⟩
    replace b5 : Below w.heap.size w w5 := by (refine bstep ?_ b5); (repeat' (first | with_reducible exact b3 | with_reducible exact Below.refl _ _ | with_reducible refine Below.setCell ?_ (by first | exact Nat.le_refl _ | (dsimp only; omega)) _ | with_reducible refine bstep ?_ (fresh_below _ _) | with_reducible refine Below.drew ?_))
    have z5 : w.heap.size ≤ w5.heap.size := b5.size
    go_wp2_with fail
    go_ret
    exact ⟨rfl, (by (repeat' (first | with_reducible exact b5 | with_reducible exact Below.refl _ _ | with_reducible refine Below.setCell ?_ (by first | exact Nat.le_refl _ | (dsimp only; omega)) _ | with_reducible refine bstep ?_ (fresh_below _ _) | with_reducible refine Below.drew ?_)))⟩

set_option maxRecDepth 100000 in
set_option maxHeartbeats 2000000 in
theorem TcpBack_yes (h0 h1 h2 h3 h4 h5 h6 h7 h8 : Int) (o p : ByteArray) (w : World) (hk : (Seg.mk h0 h1 h2 h3 h4 h5 h6 h7 h8 o).Ok) (hp : p.size ≤ 140737488351232) (k2 : ¬ 600 < (p.size : Int)) (k3 : ¬ 600 < (o.size : Int)) (hm : (Seg.mk h0 h1 h2 h3 h4 h5 h6 h7 h8 o).may = true) :
    Calls Try.prog 5 #[.agg #[.int .u16 h0, .int .u16 h1, .int .u32 h2, .int .u32 h3, .int .u8 h4, .int .u8 h5, .int .u16 h6, .int .u16 h7, .int .u16 h8, .string o], .string p] w (Ret (.bool true) w) := by
  have ho : o.size ≤ 140737488351232 := hk.2.2.2.2.2.2.2.2.2
  have c3 := fun W => t_Put (Seg.mk h0 h1 h2 h3 h4 h5 h6 h7 h8 o) p W hk hp
  rw [show (Seg.mk h0 h1 h2 h3 h4 h5 h6 h7 h8 o).text p = _ from if_pos hm, show (Seg.mk h0 h1 h2 h3 h4 h5 h6 h7 h8 o).err = _ from if_pos hm] at c3
  obtain ⟨hz, hi, hg, hr⟩ := tcp_back (Seg.mk h0 h1 h2 h3 h4 h5 h6 h7 h8 o) p hk hm
  have hzI : ((S ((Seg.mk h0 h1 h2 h3 h4 h5 h6 h7 h8 o).put p)).size : Int) = 20 + (o.size : Int) + (p.size : Int) := by rw [hz]; simp only; omega
  have c1 := fun W => t_Parse_yes (S ((Seg.mk h0 h1 h2 h3 h4 h5 h6 h7 h8 o).put p)) W (by omega) hi
  rw [hg, hr] at c1
  have q1 : h4 < 16 := by unfold Seg.may at hm; simp at hm; omega
  have q2 : (o.size : Int) ≤ 40 := by unfold Seg.may at hm; simp at hm; omega
  have q3 : ((o.size : Int) % 4 == 0) = true := by unfold Seg.may at hm; simp at hm; simp; omega
  obtain ⟨t, ht⟩ : ∃ t, t = S ((Seg.mk h0 h1 h2 h3 h4 h5 h6 h7 h8 o).put p) := ⟨_, rfl⟩
  rw [← ht] at c3 c1 hzI
  simp only [Seg.cells] at c3 c1
  have C3 := hide c3; have C1 := hide c1
  clear c3 c1 hk hm hz hi hg hr ht
  go_enter Try.func5, Try.ntmps5
  have d0 := Cells.new w #[.int .u16 h0, .int .u16 h1, .int .u32 h2, .int .u32 h3, .int .u8 h4, .int .u8 h5, .int .u16 h6, .int .u16 h7, .int .u16 h8, .string o] 25
  have xd0_0 : (w.alloc (.cells #[.int .u16 h0, .int .u16 h1, .int .u32 h2, .int .u32 h3, .int .u8 h4, .int .u8 h5, .int .u16 h6, .int .u16 h7, .int .u16 h8, .string o] 25)).cell? ⟨w.heap.size, 0, none⟩ = some (.int .u16 h0) := d0.at_ 0
  have xd0_1 : (w.alloc (.cells #[.int .u16 h0, .int .u16 h1, .int .u32 h2, .int .u32 h3, .int .u8 h4, .int .u8 h5, .int .u16 h6, .int .u16 h7, .int .u16 h8, .string o] 25)).cell? ⟨w.heap.size, 1, none⟩ = some (.int .u16 h1) := d0.at_ 1
  have xd0_2 : (w.alloc (.cells #[.int .u16 h0, .int .u16 h1, .int .u32 h2, .int .u32 h3, .int .u8 h4, .int .u8 h5, .int .u16 h6, .int .u16 h7, .int .u16 h8, .string o] 25)).cell? ⟨w.heap.size, 2, none⟩ = some (.int .u32 h2) := d0.at_ 2
  have xd0_3 : (w.alloc (.cells #[.int .u16 h0, .int .u16 h1, .int .u32 h2, .int .u32 h3, .int .u8 h4, .int .u8 h5, .int .u16 h6, .int .u16 h7, .int .u16 h8, .string o] 25)).cell? ⟨w.heap.size, 3, none⟩ = some (.int .u32 h3) := d0.at_ 3
  have xd0_4 : (w.alloc (.cells #[.int .u16 h0, .int .u16 h1, .int .u32 h2, .int .u32 h3, .int .u8 h4, .int .u8 h5, .int .u16 h6, .int .u16 h7, .int .u16 h8, .string o] 25)).cell? ⟨w.heap.size, 4, none⟩ = some (.int .u8 h4) := d0.at_ 4
  have xd0_5 : (w.alloc (.cells #[.int .u16 h0, .int .u16 h1, .int .u32 h2, .int .u32 h3, .int .u8 h4, .int .u8 h5, .int .u16 h6, .int .u16 h7, .int .u16 h8, .string o] 25)).cell? ⟨w.heap.size, 5, none⟩ = some (.int .u8 h5) := d0.at_ 5
  have xd0_6 : (w.alloc (.cells #[.int .u16 h0, .int .u16 h1, .int .u32 h2, .int .u32 h3, .int .u8 h4, .int .u8 h5, .int .u16 h6, .int .u16 h7, .int .u16 h8, .string o] 25)).cell? ⟨w.heap.size, 6, none⟩ = some (.int .u16 h6) := d0.at_ 6
  have xd0_7 : (w.alloc (.cells #[.int .u16 h0, .int .u16 h1, .int .u32 h2, .int .u32 h3, .int .u8 h4, .int .u8 h5, .int .u16 h6, .int .u16 h7, .int .u16 h8, .string o] 25)).cell? ⟨w.heap.size, 7, none⟩ = some (.int .u16 h7) := d0.at_ 7
  have xd0_8 : (w.alloc (.cells #[.int .u16 h0, .int .u16 h1, .int .u32 h2, .int .u32 h3, .int .u8 h4, .int .u8 h5, .int .u16 h6, .int .u16 h7, .int .u16 h8, .string o] 25)).cell? ⟨w.heap.size, 8, none⟩ = some (.int .u16 h8) := d0.at_ 8
  have xd0_9 : (w.alloc (.cells #[.int .u16 h0, .int .u16 h1, .int .u32 h2, .int .u32 h3, .int .u8 h4, .int .u8 h5, .int .u16 h6, .int .u16 h7, .int .u16 h8, .string o] 25)).cell? ⟨w.heap.size, 9, none⟩ = some (.string o) := d0.at_ 9
  go_wp2_with fail
  (with_reducible refine (C3.out _).mono ?_)
  rintro e w3 ⟨rfl, b3⟩
  replace d0 := Cells.below b3 d0
  replace b3 : Below w.heap.size w w3 := bstep (fresh_below _ _) b3
  clear xd0_0 xd0_1 xd0_2 xd0_3 xd0_4 xd0_5 xd0_6 xd0_7 xd0_8 xd0_9
  have xd0_0 : w3.cell? ⟨w.heap.size, 0, none⟩ = some (.int .u16 h0) := d0.at_ 0
  have xd0_1 : w3.cell? ⟨w.heap.size, 1, none⟩ = some (.int .u16 h1) := d0.at_ 1
  have xd0_2 : w3.cell? ⟨w.heap.size, 2, none⟩ = some (.int .u32 h2) := d0.at_ 2
  have xd0_3 : w3.cell? ⟨w.heap.size, 3, none⟩ = some (.int .u32 h3) := d0.at_ 3
  have xd0_4 : w3.cell? ⟨w.heap.size, 4, none⟩ = some (.int .u8 h4) := d0.at_ 4
  have xd0_5 : w3.cell? ⟨w.heap.size, 5, none⟩ = some (.int .u8 h5) := d0.at_ 5
  have xd0_6 : w3.cell? ⟨w.heap.size, 6, none⟩ = some (.int .u16 h6) := d0.at_ 6
  have xd0_7 : w3.cell? ⟨w.heap.size, 7, none⟩ = some (.int .u16 h7) := d0.at_ 7
  have xd0_8 : w3.cell? ⟨w.heap.size, 8, none⟩ = some (.int .u16 h8) := d0.at_ 8
  have xd0_9 : w3.cell? ⟨w.heap.size, 9, none⟩ = some (.string o) := d0.at_ 9
  go_wp2_with fail
  (with_reducible refine (C1.out _).mono ?_)
  rintro e w4 ⟨rfl, b4⟩
  replace d0 := Cells.alloc (Cells.below b4 d0) (.cells #[.int .u16 h0, .int .u16 h1, .int .u32 h2, .int .u32 h3, .int .u8 h4, .int .u8 h5, .int .u16 h6, .int .u16 h7, .int .u16 h8, .string o] 25)
  replace b4 : Below w.heap.size w w4 := bstep b3 b4
  have d4 := Cells.new w4 #[.int .u16 h0, .int .u16 h1, .int .u32 h2, .int .u32 h3, .int .u8 h4, .int .u8 h5, .int .u16 h6, .int .u16 h7, .int .u16 h8, .string o] 25
  clear xd0_0 xd0_1 xd0_2 xd0_3 xd0_4 xd0_5 xd0_6 xd0_7 xd0_8 xd0_9
  have xd0_0 : (w4.alloc (.cells #[.int .u16 h0, .int .u16 h1, .int .u32 h2, .int .u32 h3, .int .u8 h4, .int .u8 h5, .int .u16 h6, .int .u16 h7, .int .u16 h8, .string o] 25)).cell? ⟨w.heap.size, 0, none⟩ = some (.int .u16 h0) := d0.at_ 0
  have xd0_1 : (w4.alloc (.cells #[.int .u16 h0, .int .u16 h1, .int .u32 h2, .int .u32 h3, .int .u8 h4, .int .u8 h5, .int .u16 h6, .int .u16 h7, .int .u16 h8, .string o] 25)).cell? ⟨w.heap.size, 1, none⟩ = some (.int .u16 h1) := d0.at_ 1
  have xd0_2 : (w4.alloc (.cells #[.int .u16 h0, .int .u16 h1, .int .u32 h2, .int .u32 h3, .int .u8 h4, .int .u8 h5, .int .u16 h6, .int .u16 h7, .int .u16 h8, .string o] 25)).cell? ⟨w.heap.size, 2, none⟩ = some (.int .u32 h2) := d0.at_ 2
  have xd0_3 : (w4.alloc (.cells #[.int .u16 h0, .int .u16 h1, .int .u32 h2, .int .u32 h3, .int .u8 h4, .int .u8 h5, .int .u16 h6, .int .u16 h7, .int .u16 h8, .string o] 25)).cell? ⟨w.heap.size, 3, none⟩ = some (.int .u32 h3) := d0.at_ 3
  have xd0_4 : (w4.alloc (.cells #[.int .u16 h0, .int .u16 h1, .int .u32 h2, .int .u32 h3, .int .u8 h4, .int .u8 h5, .int .u16 h6, .int .u16 h7, .int .u16 h8, .string o] 25)).cell? ⟨w.heap.size, 4, none⟩ = some (.int .u8 h4) := d0.at_ 4
  have xd0_5 : (w4.alloc (.cells #[.int .u16 h0, .int .u16 h1, .int .u32 h2, .int .u32 h3, .int .u8 h4, .int .u8 h5, .int .u16 h6, .int .u16 h7, .int .u16 h8, .string o] 25)).cell? ⟨w.heap.size, 5, none⟩ = some (.int .u8 h5) := d0.at_ 5
  have xd0_6 : (w4.alloc (.cells #[.int .u16 h0, .int .u16 h1, .int .u32 h2, .int .u32 h3, .int .u8 h4, .int .u8 h5, .int .u16 h6, .int .u16 h7, .int .u16 h8, .string o] 25)).cell? ⟨w.heap.size, 6, none⟩ = some (.int .u16 h6) := d0.at_ 6
  have xd0_7 : (w4.alloc (.cells #[.int .u16 h0, .int .u16 h1, .int .u32 h2, .int .u32 h3, .int .u8 h4, .int .u8 h5, .int .u16 h6, .int .u16 h7, .int .u16 h8, .string o] 25)).cell? ⟨w.heap.size, 7, none⟩ = some (.int .u16 h7) := d0.at_ 7
  have xd0_8 : (w4.alloc (.cells #[.int .u16 h0, .int .u16 h1, .int .u32 h2, .int .u32 h3, .int .u8 h4, .int .u8 h5, .int .u16 h6, .int .u16 h7, .int .u16 h8, .string o] 25)).cell? ⟨w.heap.size, 8, none⟩ = some (.int .u16 h8) := d0.at_ 8
  have xd0_9 : (w4.alloc (.cells #[.int .u16 h0, .int .u16 h1, .int .u32 h2, .int .u32 h3, .int .u8 h4, .int .u8 h5, .int .u16 h6, .int .u16 h7, .int .u16 h8, .string o] 25)).cell? ⟨w.heap.size, 9, none⟩ = some (.string o) := d0.at_ 9
  have xd4_0 : (w4.alloc (.cells #[.int .u16 h0, .int .u16 h1, .int .u32 h2, .int .u32 h3, .int .u8 h4, .int .u8 h5, .int .u16 h6, .int .u16 h7, .int .u16 h8, .string o] 25)).cell? ⟨w4.heap.size, 0, none⟩ = some (.int .u16 h0) := d4.at_ 0
  have xd4_1 : (w4.alloc (.cells #[.int .u16 h0, .int .u16 h1, .int .u32 h2, .int .u32 h3, .int .u8 h4, .int .u8 h5, .int .u16 h6, .int .u16 h7, .int .u16 h8, .string o] 25)).cell? ⟨w4.heap.size, 1, none⟩ = some (.int .u16 h1) := d4.at_ 1
  have xd4_2 : (w4.alloc (.cells #[.int .u16 h0, .int .u16 h1, .int .u32 h2, .int .u32 h3, .int .u8 h4, .int .u8 h5, .int .u16 h6, .int .u16 h7, .int .u16 h8, .string o] 25)).cell? ⟨w4.heap.size, 2, none⟩ = some (.int .u32 h2) := d4.at_ 2
  have xd4_3 : (w4.alloc (.cells #[.int .u16 h0, .int .u16 h1, .int .u32 h2, .int .u32 h3, .int .u8 h4, .int .u8 h5, .int .u16 h6, .int .u16 h7, .int .u16 h8, .string o] 25)).cell? ⟨w4.heap.size, 3, none⟩ = some (.int .u32 h3) := d4.at_ 3
  have xd4_4 : (w4.alloc (.cells #[.int .u16 h0, .int .u16 h1, .int .u32 h2, .int .u32 h3, .int .u8 h4, .int .u8 h5, .int .u16 h6, .int .u16 h7, .int .u16 h8, .string o] 25)).cell? ⟨w4.heap.size, 4, none⟩ = some (.int .u8 h4) := d4.at_ 4
  have xd4_5 : (w4.alloc (.cells #[.int .u16 h0, .int .u16 h1, .int .u32 h2, .int .u32 h3, .int .u8 h4, .int .u8 h5, .int .u16 h6, .int .u16 h7, .int .u16 h8, .string o] 25)).cell? ⟨w4.heap.size, 5, none⟩ = some (.int .u8 h5) := d4.at_ 5
  have xd4_6 : (w4.alloc (.cells #[.int .u16 h0, .int .u16 h1, .int .u32 h2, .int .u32 h3, .int .u8 h4, .int .u8 h5, .int .u16 h6, .int .u16 h7, .int .u16 h8, .string o] 25)).cell? ⟨w4.heap.size, 6, none⟩ = some (.int .u16 h6) := d4.at_ 6
  have xd4_7 : (w4.alloc (.cells #[.int .u16 h0, .int .u16 h1, .int .u32 h2, .int .u32 h3, .int .u8 h4, .int .u8 h5, .int .u16 h6, .int .u16 h7, .int .u16 h8, .string o] 25)).cell? ⟨w4.heap.size, 7, none⟩ = some (.int .u16 h7) := d4.at_ 7
  have xd4_8 : (w4.alloc (.cells #[.int .u16 h0, .int .u16 h1, .int .u32 h2, .int .u32 h3, .int .u8 h4, .int .u8 h5, .int .u16 h6, .int .u16 h7, .int .u16 h8, .string o] 25)).cell? ⟨w4.heap.size, 8, none⟩ = some (.int .u16 h8) := d4.at_ 8
  have xd4_9 : (w4.alloc (.cells #[.int .u16 h0, .int .u16 h1, .int .u32 h2, .int .u32 h3, .int .u8 h4, .int .u8 h5, .int .u16 h6, .int .u16 h7, .int .u16 h8, .string o] 25)).cell? ⟨w4.heap.size, 9, none⟩ = some (.string o) := d4.at_ 9
  go_wp2_with fail
  (with_reducible refine (begun _).mono ?_)
  rintro e w5 ⟨rfl, b5⟩
  replace b5 : Below w.heap.size w w5 := by (refine bstep ?_ b5); (repeat' (first | with_reducible exact b4 | with_reducible exact Below.refl _ _ | with_reducible refine Below.setCell ?_ (by first | exact Nat.le_refl _ | (dsimp only; omega)) _ | with_reducible refine bstep ?_ (fresh_below _ _) | with_reducible refine Below.drew ?_))
  have z5 : w.heap.size ≤ w5.heap.size := b5.size
  go_wp2_with fail
  go_ret
  exact ⟨rfl, (by (repeat' (first | with_reducible exact b5 | with_reducible exact Below.refl _ _ | with_reducible refine Below.setCell ?_ (by first | exact Nat.le_refl _ | (dsimp only; omega)) _ | with_reducible refine bstep ?_ (fresh_below _ _) | with_reducible refine Below.drew ?_)))⟩

theorem TcpBack_seg (h : Seg) (p : ByteArray) (w : World) (hk : h.Ok) (hp : p.size ≤ 140737488351232) :
    Calls Try.prog 5 #[.agg h.cells, .string p] w (Ret (.bool true) w) := by
  have ho : h.o.size ≤ 140737488351232 := hk.2.2.2.2.2.2.2.2.2
  by_cases k2 : 600 < p.size
  · clear hk
    obtain ⟨h0, h1, h2, h3, h4, h5, h6, h7, h8, o⟩ := h
    simp only [Seg.cells] at ho ⊢
    go_enter Try.func5, Try.ntmps5
    go_wp2_with fail
    (with_reducible refine (begun _).mono ?_)
    rintro e w1 ⟨rfl, b1⟩
    replace b1 : Below w.heap.size w w1 := by (refine bstep ?_ b1); (repeat' (first | with_reducible exact Below.refl _ _ | with_reducible refine Below.setCell ?_ (by first | exact Nat.le_refl _ | (dsimp only; omega)) _ | with_reducible refine bstep ?_ (fresh_below _ _) | with_reducible refine Below.drew ?_))
    have z1 : w.heap.size ≤ w1.heap.size := b1.size
    go_wp2_with fail
    go_ret
    exact ⟨rfl, (by (repeat' (first | with_reducible exact b1 | with_reducible exact Below.refl _ _ | with_reducible refine Below.setCell ?_ (by first | exact Nat.le_refl _ | (dsimp only; omega)) _ | with_reducible refine bstep ?_ (fresh_below _ _) | with_reducible refine Below.drew ?_)))⟩
  by_cases k3 : 600 < h.o.size
  · clear hk
    obtain ⟨h0, h1, h2, h3, h4, h5, h6, h7, h8, o⟩ := h
    simp only [Seg.cells] at ho k3 ⊢
    go_enter Try.func5, Try.ntmps5
    go_wp2_with fail
    (with_reducible refine (begun _).mono ?_)
    rintro e w1 ⟨rfl, b1⟩
    replace b1 : Below w.heap.size w w1 := by (refine bstep ?_ b1); (repeat' (first | with_reducible exact Below.refl _ _ | with_reducible refine Below.setCell ?_ (by first | exact Nat.le_refl _ | (dsimp only; omega)) _ | with_reducible refine bstep ?_ (fresh_below _ _) | with_reducible refine Below.drew ?_))
    have z1 : w.heap.size ≤ w1.heap.size := b1.size
    go_wp2_with fail
    go_ret
    exact ⟨rfl, (by (repeat' (first | with_reducible exact b1 | with_reducible exact Below.refl _ _ | with_reducible refine Below.setCell ?_ (by first | exact Nat.le_refl _ | (dsimp only; omega)) _ | with_reducible refine bstep ?_ (fresh_below _ _) | with_reducible refine Below.drew ?_)))⟩
  by_cases hm : h.may = true
  · exact TcpBack_yes h.s h.d h.q h.k h.l h.f h.w h.n h.u h.o p w hk hp (by omega) (by omega) hm
  · exact TcpBack_no h.s h.d h.q h.k h.l h.f h.w h.n h.u h.o p w hk hp (by omega) (by omega) (by simpa using hm)
theorem TcpBack_walk (h0 h1 h2 h3 h4 h5 h6 h7 h8 : Int) (o p : ByteArray) (w : World) (k0 : 0 ≤ h0 ∧ h0 ≤ 65535) (k1 : 0 ≤ h1 ∧ h1 ≤ 65535) (k2 : 0 ≤ h2 ∧ h2 ≤ 4294967295) (k3 : 0 ≤ h3 ∧ h3 ≤ 4294967295) (k4 : 0 ≤ h4 ∧ h4 ≤ 255) (k5 : 0 ≤ h5 ∧ h5 ≤ 255) (k6 : 0 ≤ h6 ∧ h6 ≤ 65535) (k7 : 0 ≤ h7 ∧ h7 ≤ 65535) (k8 : 0 ≤ h8 ∧ h8 ≤ 65535) (ho : o.size ≤ 140737488351232) (hp : p.size ≤ 140737488351232) :
    Calls Try.prog 5 #[.agg #[.int .u16 h0, .int .u16 h1, .int .u32 h2, .int .u32 h3, .int .u8 h4, .int .u8 h5, .int .u16 h6, .int .u16 h7, .int .u16 h8, .string o], .string p] w (Ret (.bool true) w) :=
  TcpBack_seg (Seg.mk h0 h1 h2 h3 h4 h5 h6 h7 h8 o) p w ⟨k0, k1, k2, k3, k4, k5, k6, k7, k8, ho⟩ hp
end Go.Proofs.Ytlmpoikjjidgiaa
