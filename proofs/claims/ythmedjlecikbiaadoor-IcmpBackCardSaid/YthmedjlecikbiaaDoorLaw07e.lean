/- IcmpBack walked: it returns true and leaves what lay there as it lay. -/
import Derived.Test.YthmedjlecikbiaaDoorLaw07d
set_option linter.unusedVariables false
set_option linter.unusedSimpArgs false
namespace Go.Proofs.YthmedjlecikbiaaDoor
open Go.RowKit Go.Maps
attribute [local go_sem] Oper.semAt_some

set_option maxRecDepth 100000 in
set_option maxHeartbeats 8000000 in
theorem IcmpBack_yes (t c n : Int) (r d s : ByteArray) (id : Int) (w : World) (K0 : Kinds w) (ho : (Msg.mk t c n r d).Ok) (hs : s.size ≤ 600) (hr4 : r.size = 4) (g2 : r.size ≤ 600) (g3 : d.size ≤ 600)
    (x1 x2 x3 : Int) (x4 x5 : ByteArray) (is : Bool) (u : ByteArray) (f : Int) (y1 y2 y3 : Int) (y4 y5 : ByteArray) (q6 q7 : Int)
    (p3 : ∀ w, Calls Tryd.prog 13 #[.string s] w (Ret (.tuple #[.agg #[.int .u8 x1, .int .u8 x2, .int .u16 x3, .string x4, .string x5], .bool is]) w))
    (p4 : ∀ w, Calls Tryd.prog 15 #[.agg #[.int .u8 x1, .int .u8 x2, .int .u16 x3, .string x4, .string x5]] w (Ret (.tuple #[.string u, .int .i64 f]) w))
    (p5 : ∀ w, Calls Tryd.prog 23 #[.agg #[.int .u8 x1, .int .u8 x2, .int .u16 x3, .string x4, .string x5], .int .u16 id] w (Ret (.agg #[.int .u8 y1, .int .u8 y2, .int .u16 y3, .string y4, .string y5]) w))
    (p6 : ∀ w, Calls Tryd.prog 21 #[.agg #[.int .u8 y1, .int .u8 y2, .int .u16 y3, .string y4, .string y5]] w (Ret (.int .u16 q6) w))
    (p7 : ∀ w, Calls Tryd.prog 21 #[.agg #[.int .u8 x1, .int .u8 x2, .int .u16 x3, .string x4, .string x5]] w (Ret (.int .u16 q7) w))
    (p8 : is = true → ∀ w, Calls Tryd.prog 23 #[.agg #[.int .u8 y1, .int .u8 y2, .int .u16 y3, .string y4, .string y5], .int .u16 q7] w (Ret (.agg #[.int .u8 x1, .int .u8 x2, .int .u16 x3, .string x4, .string x5]) w))
    (hx : (is = true ∧ 8 ≤ s.size ∧ u = s ∧ f = 0 ∧ q6 = id) ∨ (is = false ∧ s.size < 8)) :
    Calls Tryd.prog 6 #[.agg #[.int .u8 t, .int .u8 c, .int .u16 n, .string r, .string d], .string s, .int .u16 id] w (Ret (.bool true) w) := by
  have c0 := fun w k => echoed w k
  have p1 := fun w => i_Put_yes ⟨t, c, n, r, d⟩ w ho hr4
  have p2 := fun w => i_Parse_yes (S (msgPut ⟨t, c, n, r, d⟩)) w (by rw [S_size, msgPut_length]; simp only; omega) (by rw [S_size, msgPut_length]; simp only; omega)
  rw [msg_put_parse ho hr4] at p2
  simp only at p1 p2
  generalize S (msgPut ⟨t, c, n, r, d⟩) = tt at p1 p2
  have z4 : ((r.size : Int) == 4) = true := by simp; omega
  have q3 := fun w k => i_Query ⟨t, c, n, r, d⟩ w ho k
  have q5 := fun w k => i_Error ⟨t, c, n, r, d⟩ w ho k
  have hap := q_apart ⟨t, c, n, r, d⟩
  simp only at q3 q5
  generalize qAsk ⟨t, c, n, r, d⟩ = v1 at q3
  generalize qIs ⟨t, c, n, r, d⟩ = v2 at q3 hap
  generalize qErr ⟨t, c, n, r, d⟩ = v3 at q5 hap
  have hv : (v2 = true ∧ v3 = false) ∨ v2 = false := by cases v2 <;> cases v3 <;> simp_all
  have KK := hide K0; have C0 := hide c0; have P1 := hide p1; have P2 := hide p2; have P3 := hide p3; have P4 := hide p4; have P5 := hide p5; have P6 := hide p6; have P7 := hide p7; have Q3 := hide q3; have Q5 := hide q5
  clear K0 c0 p1 p2 p3 p4 p5 p6 p7 q3 q5 ho hr4 hap
  rcases hx with ⟨rfl, h8, rfl, rfl, rfl⟩ | ⟨rfl, h8⟩
  · have P8 := hide (p8 rfl)
    clear p8
    have z8 : decide ((8 : Int) ≤ (u.size : Int)) = true := by simp; omega
    rcases hv with ⟨rfl, rfl⟩ | rfl
    · go_enter Tryd.func6, Tryd.ntmps6
      have d0 := Cells.new w #[.int .u8 t, .int .u8 c, .int .u16 n, .string r, .string d] 29
      go_wp2_with fail
      (with_reducible refine (P1.out _).mono ?_)
      rintro e w1 ⟨rfl, b1⟩
      replace d0 := Cells.up d0 (by (repeat' (first | with_reducible exact Below.refl _ _ | with_reducible refine bstep ?_ (fresh_below _ _) | with_reducible refine Below.drew ?_))) b1
      replace b1 : Below w.heap.size w w1 := by (refine bstep ?_ b1); (repeat' (first | with_reducible exact Below.refl _ _ | with_reducible refine Below.setCell ?_ (by first | exact Nat.le_refl _ | (dsimp only; omega)) _ | with_reducible refine bstep ?_ (fresh_below _ _) | with_reducible refine Below.drew ?_))
      have z1 : w.heap.size ≤ w1.heap.size := b1.size
      have ea := d0
      have xea_0 : w1.cell? ⟨w.heap.size, 0, none⟩ = some (.int .u8 t) := ea.at_ 0
      have xea_1 : w1.cell? ⟨w.heap.size, 1, none⟩ = some (.int .u8 c) := ea.at_ 1
      have xea_2 : w1.cell? ⟨w.heap.size, 2, none⟩ = some (.int .u16 n) := ea.at_ 2
      have xea_3 : w1.cell? ⟨w.heap.size, 3, none⟩ = some (.string r) := ea.at_ 3
      have xea_4 : w1.cell? ⟨w.heap.size, 4, none⟩ = some (.string d) := ea.at_ 4
      go_wp2_with fail
      (with_reducible refine (P2.out _).mono ?_)
      rintro e w2 ⟨rfl, b2⟩
      replace d0 := Cells.up d0 (by (repeat' (first | with_reducible exact Below.refl _ _ | with_reducible refine bstep ?_ (fresh_below _ _) | with_reducible refine Below.drew ?_))) b2
      replace b2 : Below w.heap.size w w2 := by (refine bstep ?_ b2); (repeat' (first | with_reducible exact b1 | with_reducible exact Below.refl _ _ | with_reducible refine Below.setCell ?_ (by first | exact Nat.le_refl _ | (dsimp only; omega)) _ | with_reducible refine bstep ?_ (fresh_below _ _) | with_reducible refine Below.drew ?_))
      have z2 : w.heap.size ≤ w2.heap.size := b2.size
      replace d0 := Cells.below (fresh_below w2 (.cells #[.int .u8 t, .int .u8 c, .int .u16 n, .string r, .string d] 29)) d0
      have d1 := Cells.new w2 #[.int .u8 t, .int .u8 c, .int .u16 n, .string r, .string d] 29
      have eb := d0
      have xeb_0 : (w2.alloc (.cells #[.int .u8 t, .int .u8 c, .int .u16 n, .string r, .string d] 29)).cell? ⟨w.heap.size, 0, none⟩ = some (.int .u8 t) := eb.at_ 0
      have xeb_1 : (w2.alloc (.cells #[.int .u8 t, .int .u8 c, .int .u16 n, .string r, .string d] 29)).cell? ⟨w.heap.size, 1, none⟩ = some (.int .u8 c) := eb.at_ 1
      have xeb_2 : (w2.alloc (.cells #[.int .u8 t, .int .u8 c, .int .u16 n, .string r, .string d] 29)).cell? ⟨w.heap.size, 2, none⟩ = some (.int .u16 n) := eb.at_ 2
      have xeb_3 : (w2.alloc (.cells #[.int .u8 t, .int .u8 c, .int .u16 n, .string r, .string d] 29)).cell? ⟨w.heap.size, 3, none⟩ = some (.string r) := eb.at_ 3
      have xeb_4 : (w2.alloc (.cells #[.int .u8 t, .int .u8 c, .int .u16 n, .string r, .string d] 29)).cell? ⟨w.heap.size, 4, none⟩ = some (.string d) := eb.at_ 4
      go_wp2_with fail
      (with_reducible refine (P3.out _).mono ?_)
      rintro e w3 ⟨rfl, b3⟩
      replace d0 := Cells.up d0 (by (repeat' (first | with_reducible exact Below.refl _ _ | with_reducible refine bstep ?_ (fresh_below _ _) | with_reducible refine Below.drew ?_))) b3
      replace b3 : Below w.heap.size w w3 := by (refine bstep ?_ b3); (repeat' (first | with_reducible exact b2 | with_reducible exact Below.refl _ _ | with_reducible refine Below.setCell ?_ (by first | exact Nat.le_refl _ | (dsimp only; omega)) _ | with_reducible refine bstep ?_ (fresh_below _ _) | with_reducible refine Below.drew ?_))
      have z3 : w.heap.size ≤ w3.heap.size := b3.size
      replace d0 := Cells.below (fresh_below w3 (.cells #[.int .u8 x1, .int .u8 x2, .int .u16 x3, .string x4, .string x5] 29)) d0
      have d2 := Cells.new w3 #[.int .u8 x1, .int .u8 x2, .int .u16 x3, .string x4, .string x5] 29
      go_wp2_with fail
      (with_reducible refine (P4.out _).mono ?_)
      rintro e w4 ⟨rfl, b4⟩
      replace d0 := Cells.up d0 (by (repeat' (first | with_reducible exact Below.refl _ _ | with_reducible refine bstep ?_ (fresh_below _ _) | with_reducible refine Below.drew ?_))) b4
      replace d2 := Cells.up d2 (by (repeat' (first | with_reducible exact Below.refl _ _ | with_reducible refine bstep ?_ (fresh_below _ _) | with_reducible refine Below.drew ?_))) b4
      replace b4 : Below w.heap.size w w4 := by (refine bstep ?_ b4); (repeat' (first | with_reducible exact b3 | with_reducible exact Below.refl _ _ | with_reducible refine Below.setCell ?_ (by first | exact Nat.le_refl _ | (dsimp only; omega)) _ | with_reducible refine bstep ?_ (fresh_below _ _) | with_reducible refine Below.drew ?_))
      have z4 : w.heap.size ≤ w4.heap.size := b4.size
      have ec := d0
      have xec_0 : w4.cell? ⟨w.heap.size, 0, none⟩ = some (.int .u8 t) := ec.at_ 0
      have xec_1 : w4.cell? ⟨w.heap.size, 1, none⟩ = some (.int .u8 c) := ec.at_ 1
      have xec_2 : w4.cell? ⟨w.heap.size, 2, none⟩ = some (.int .u16 n) := ec.at_ 2
      have xec_3 : w4.cell? ⟨w.heap.size, 3, none⟩ = some (.string r) := ec.at_ 3
      have xec_4 : w4.cell? ⟨w.heap.size, 4, none⟩ = some (.string d) := ec.at_ 4
      go_wp2_with fail
      (with_reducible refine (Q3.out _ (KK.out.below (by (repeat' (first | with_reducible exact b4 | with_reducible exact Below.refl _ _ | with_reducible refine Below.setCell ?_ (by first | exact Nat.le_refl _ | (dsimp only; omega)) _ | with_reducible refine bstep ?_ (fresh_below _ _) | with_reducible refine Below.drew ?_))))).mono ?_)
      rintro e w5 ⟨rfl, b5⟩
      replace d0 := Cells.up d0 (by (repeat' (first | with_reducible exact Below.refl _ _ | with_reducible refine bstep ?_ (fresh_below _ _) | with_reducible refine Below.drew ?_))) b5
      replace d2 := Cells.up d2 (by (repeat' (first | with_reducible exact Below.refl _ _ | with_reducible refine bstep ?_ (fresh_below _ _) | with_reducible refine Below.drew ?_))) b5
      replace b5 : Below w.heap.size w w5 := by (refine bstep ?_ b5); (repeat' (first | with_reducible exact b4 | with_reducible exact Below.refl _ _ | with_reducible refine Below.setCell ?_ (by first | exact Nat.le_refl _ | (dsimp only; omega)) _ | with_reducible refine bstep ?_ (fresh_below _ _) | with_reducible refine Below.drew ?_))
      have z5 : w.heap.size ≤ w5.heap.size := b5.size
      have ed := d0
      have ee := d2
      have xed_0 : w5.cell? ⟨w.heap.size, 0, none⟩ = some (.int .u8 t) := ed.at_ 0
      have xed_1 : w5.cell? ⟨w.heap.size, 1, none⟩ = some (.int .u8 c) := ed.at_ 1
      have xed_2 : w5.cell? ⟨w.heap.size, 2, none⟩ = some (.int .u16 n) := ed.at_ 2
      have xed_3 : w5.cell? ⟨w.heap.size, 3, none⟩ = some (.string r) := ed.at_ 3
      have xed_4 : w5.cell? ⟨w.heap.size, 4, none⟩ = some (.string d) := ed.at_ 4
      have xee_0 : w5.cell? ⟨w3.heap.size, 0, none⟩ = some (.int .u8 x1) := ee.at_ 0
      have xee_1 : w5.cell? ⟨w3.heap.size, 1, none⟩ = some (.int .u8 x2) := ee.at_ 1
      have xee_2 : w5.cell? ⟨w3.heap.size, 2, none⟩ = some (.int .u16 x3) := ee.at_ 2
      have xee_3 : w5.cell? ⟨w3.heap.size, 3, none⟩ = some (.string x4) := ee.at_ 3
      have xee_4 : w5.cell? ⟨w3.heap.size, 4, none⟩ = some (.string x5) := ee.at_ 4
      go_wp2_with fail
      (with_reducible refine (Q5.out _ (KK.out.below (by (repeat' (first | with_reducible exact b5 | with_reducible exact Below.refl _ _ | with_reducible refine Below.setCell ?_ (by first | exact Nat.le_refl _ | (dsimp only; omega)) _ | with_reducible refine bstep ?_ (fresh_below _ _) | with_reducible refine Below.drew ?_))))).mono ?_)
      rintro e w6 ⟨rfl, b6⟩
      replace d0 := Cells.up d0 (by (repeat' (first | with_reducible exact Below.refl _ _ | with_reducible refine bstep ?_ (fresh_below _ _) | with_reducible refine Below.drew ?_))) b6
      replace d2 := Cells.up d2 (by (repeat' (first | with_reducible exact Below.refl _ _ | with_reducible refine bstep ?_ (fresh_below _ _) | with_reducible refine Below.drew ?_))) b6
      replace b6 : Below w.heap.size w w6 := by (refine bstep ?_ b6); (repeat' (first | with_reducible exact b5 | with_reducible exact Below.refl _ _ | with_reducible refine Below.setCell ?_ (by first | exact Nat.le_refl _ | (dsimp only; omega)) _ | with_reducible refine bstep ?_ (fresh_below _ _) | with_reducible refine Below.drew ?_))
      have z6 : w.heap.size ≤ w6.heap.size := b6.size
      have ef := d2
      have xef_0 : w6.cell? ⟨w3.heap.size, 0, none⟩ = some (.int .u8 x1) := ef.at_ 0
      have xef_1 : w6.cell? ⟨w3.heap.size, 1, none⟩ = some (.int .u8 x2) := ef.at_ 1
      have xef_2 : w6.cell? ⟨w3.heap.size, 2, none⟩ = some (.int .u16 x3) := ef.at_ 2
      have xef_3 : w6.cell? ⟨w3.heap.size, 3, none⟩ = some (.string x4) := ef.at_ 3
      have xef_4 : w6.cell? ⟨w3.heap.size, 4, none⟩ = some (.string x5) := ef.at_ 4
      go_wp2_with fail
      (with_reducible refine (P5.out _).mono ?_)
      rintro e w7 ⟨rfl, b7⟩
      replace d2 := Cells.up d2 (by (repeat' (first | with_reducible exact Below.refl _ _ | with_reducible refine bstep ?_ (fresh_below _ _) | with_reducible refine Below.drew ?_))) b7
      replace b7 : Below w.heap.size w w7 := by (refine bstep ?_ b7); (repeat' (first | with_reducible exact b6 | with_reducible exact Below.refl _ _ | with_reducible refine Below.setCell ?_ (by first | exact Nat.le_refl _ | (dsimp only; omega)) _ | with_reducible refine bstep ?_ (fresh_below _ _) | with_reducible refine Below.drew ?_))
      have z7 : w.heap.size ≤ w7.heap.size := b7.size
      replace d2 := Cells.below (fresh_below w7 (.cells #[.int .u8 y1, .int .u8 y2, .int .u16 y3, .string y4, .string y5] 29)) d2
      have d3 := Cells.new w7 #[.int .u8 y1, .int .u8 y2, .int .u16 y3, .string y4, .string y5] 29
      go_wp2_with fail
      have SK := hide (fun (zX zY : World) (zh : (Below w.heap.size w zX ∧ zX.cell? ⟨w3.heap.size, 0, none⟩ = some (.int .u8 x1) ∧ zX.cell? ⟨w3.heap.size, 1, none⟩ = some (.int .u8 x2) ∧ zX.cell? ⟨w3.heap.size, 2, none⟩ = some (.int .u16 x3) ∧ zX.cell? ⟨w3.heap.size, 3, none⟩ = some (.string x4) ∧ zX.cell? ⟨w3.heap.size, 4, none⟩ = some (.string x5) ∧ zX.cell? ⟨w7.heap.size, 0, none⟩ = some (.int .u8 y1) ∧ zX.cell? ⟨w7.heap.size, 1, none⟩ = some (.int .u8 y2) ∧ zX.cell? ⟨w7.heap.size, 2, none⟩ = some (.int .u16 y3) ∧ zX.cell? ⟨w7.heap.size, 3, none⟩ = some (.string y4) ∧ zX.cell? ⟨w7.heap.size, 4, none⟩ = some (.string y5) ∧ True)) (zb : Below zX.heap.size zX zY) => (show (Below w.heap.size w zY ∧ zY.cell? ⟨w3.heap.size, 0, none⟩ = some (.int .u8 x1) ∧ zY.cell? ⟨w3.heap.size, 1, none⟩ = some (.int .u8 x2) ∧ zY.cell? ⟨w3.heap.size, 2, none⟩ = some (.int .u16 x3) ∧ zY.cell? ⟨w3.heap.size, 3, none⟩ = some (.string x4) ∧ zY.cell? ⟨w3.heap.size, 4, none⟩ = some (.string x5) ∧ zY.cell? ⟨w7.heap.size, 0, none⟩ = some (.int .u8 y1) ∧ zY.cell? ⟨w7.heap.size, 1, none⟩ = some (.int .u8 y2) ∧ zY.cell? ⟨w7.heap.size, 2, none⟩ = some (.int .u16 y3) ∧ zY.cell? ⟨w7.heap.size, 3, none⟩ = some (.string y4) ∧ zY.cell? ⟨w7.heap.size, 4, none⟩ = some (.string y5) ∧ True) from ⟨bstep zh.1 zb, cellAt zb zh.2.1, cellAt zb zh.2.2.1, cellAt zb zh.2.2.2.1, cellAt zb zh.2.2.2.2.1, cellAt zb zh.2.2.2.2.2.1, cellAt zb zh.2.2.2.2.2.2.1, cellAt zb zh.2.2.2.2.2.2.2.1, cellAt zb zh.2.2.2.2.2.2.2.2.1, cellAt zb zh.2.2.2.2.2.2.2.2.2.1, cellAt zb zh.2.2.2.2.2.2.2.2.2.2.1, trivial⟩))
      have FS := hide (fun (zX : World) (zh : (Below w.heap.size w zX ∧ zX.cell? ⟨w3.heap.size, 0, none⟩ = some (.int .u8 x1) ∧ zX.cell? ⟨w3.heap.size, 1, none⟩ = some (.int .u8 x2) ∧ zX.cell? ⟨w3.heap.size, 2, none⟩ = some (.int .u16 x3) ∧ zX.cell? ⟨w3.heap.size, 3, none⟩ = some (.string x4) ∧ zX.cell? ⟨w3.heap.size, 4, none⟩ = some (.string x5) ∧ zX.cell? ⟨w7.heap.size, 0, none⟩ = some (.int .u8 y1) ∧ zX.cell? ⟨w7.heap.size, 1, none⟩ = some (.int .u8 y2) ∧ zX.cell? ⟨w7.heap.size, 2, none⟩ = some (.int .u16 y3) ∧ zX.cell? ⟨w7.heap.size, 3, none⟩ = some (.string y4) ∧ zX.cell? ⟨w7.heap.size, 4, none⟩ = some (.string y5) ∧ True)) => zh.1)
      have GS := hide (fun (zX : World) (zh : (Below w.heap.size w zX ∧ zX.cell? ⟨w3.heap.size, 0, none⟩ = some (.int .u8 x1) ∧ zX.cell? ⟨w3.heap.size, 1, none⟩ = some (.int .u8 x2) ∧ zX.cell? ⟨w3.heap.size, 2, none⟩ = some (.int .u16 x3) ∧ zX.cell? ⟨w3.heap.size, 3, none⟩ = some (.string x4) ∧ zX.cell? ⟨w3.heap.size, 4, none⟩ = some (.string x5) ∧ zX.cell? ⟨w7.heap.size, 0, none⟩ = some (.int .u8 y1) ∧ zX.cell? ⟨w7.heap.size, 1, none⟩ = some (.int .u8 y2) ∧ zX.cell? ⟨w7.heap.size, 2, none⟩ = some (.int .u16 y3) ∧ zX.cell? ⟨w7.heap.size, 3, none⟩ = some (.string y4) ∧ zX.cell? ⟨w7.heap.size, 4, none⟩ = some (.string y5) ∧ True)) => zh)
      have hS0 : (Below w.heap.size w (w7.alloc (.cells #[.int .u8 y1, .int .u8 y2, .int .u16 y3, .string y4, .string y5] 29)) ∧ (w7.alloc (.cells #[.int .u8 y1, .int .u8 y2, .int .u16 y3, .string y4, .string y5] 29)).cell? ⟨w3.heap.size, 0, none⟩ = some (.int .u8 x1) ∧ (w7.alloc (.cells #[.int .u8 y1, .int .u8 y2, .int .u16 y3, .string y4, .string y5] 29)).cell? ⟨w3.heap.size, 1, none⟩ = some (.int .u8 x2) ∧ (w7.alloc (.cells #[.int .u8 y1, .int .u8 y2, .int .u16 y3, .string y4, .string y5] 29)).cell? ⟨w3.heap.size, 2, none⟩ = some (.int .u16 x3) ∧ (w7.alloc (.cells #[.int .u8 y1, .int .u8 y2, .int .u16 y3, .string y4, .string y5] 29)).cell? ⟨w3.heap.size, 3, none⟩ = some (.string x4) ∧ (w7.alloc (.cells #[.int .u8 y1, .int .u8 y2, .int .u16 y3, .string y4, .string y5] 29)).cell? ⟨w3.heap.size, 4, none⟩ = some (.string x5) ∧ (w7.alloc (.cells #[.int .u8 y1, .int .u8 y2, .int .u16 y3, .string y4, .string y5] 29)).cell? ⟨w7.heap.size, 0, none⟩ = some (.int .u8 y1) ∧ (w7.alloc (.cells #[.int .u8 y1, .int .u8 y2, .int .u16 y3, .string y4, .string y5] 29)).cell? ⟨w7.heap.size, 1, none⟩ = some (.int .u8 y2) ∧ (w7.alloc (.cells #[.int .u8 y1, .int .u8 y2, .int .u16 y3, .string y4, .string y5] 29)).cell? ⟨w7.heap.size, 2, none⟩ = some (.int .u16 y3) ∧ (w7.alloc (.cells #[.int .u8 y1, .int .u8 y2, .int .u16 y3, .string y4, .string y5] 29)).cell? ⟨w7.heap.size, 3, none⟩ = some (.string y4) ∧ (w7.alloc (.cells #[.int .u8 y1, .int .u8 y2, .int .u16 y3, .string y4, .string y5] 29)).cell? ⟨w7.heap.size, 4, none⟩ = some (.string y5) ∧ True) := ⟨(by (repeat' (first | with_reducible exact b7 | with_reducible exact Below.refl _ _ | with_reducible refine Below.setCell ?_ (by first | exact Nat.le_refl _ | (dsimp only; omega)) _ | with_reducible refine bstep ?_ (fresh_below _ _) | with_reducible refine Below.drew ?_))), d2.at_ 0, d2.at_ 1, d2.at_ 2, d2.at_ 3, d2.at_ 4, d3.at_ 0, d3.at_ 1, d3.at_ 2, d3.at_ 3, d3.at_ 4, trivial⟩
      go_region_held3 (fun w' => (Below w.heap.size w w' ∧ w'.cell? ⟨w3.heap.size, 0, none⟩ = some (.int .u8 x1) ∧ w'.cell? ⟨w3.heap.size, 1, none⟩ = some (.int .u8 x2) ∧ w'.cell? ⟨w3.heap.size, 2, none⟩ = some (.int .u16 x3) ∧ w'.cell? ⟨w3.heap.size, 3, none⟩ = some (.string x4) ∧ w'.cell? ⟨w3.heap.size, 4, none⟩ = some (.string x5) ∧ w'.cell? ⟨w7.heap.size, 0, none⟩ = some (.int .u8 y1) ∧ w'.cell? ⟨w7.heap.size, 1, none⟩ = some (.int .u8 y2) ∧ w'.cell? ⟨w7.heap.size, 2, none⟩ = some (.int .u16 y3) ∧ w'.cell? ⟨w7.heap.size, 3, none⟩ = some (.string y4) ∧ w'.cell? ⟨w7.heap.size, 4, none⟩ = some (.string y5) ∧ True)) (first | assumption | exact SK.out _ _ hS0 (Below.refl _ _).drew | exact SK.out _ _ hS0 (fresh_below _ _).drew | exact SK.out _ _ (by assumption) (fresh_below _ _) | (refine SK.out _ _ ?_ (by assumption); assumption))
        (first | (go_at_call 21; (with_reducible refine (P6.out _).mono ?_); rintro e wq ⟨rfl, bq⟩) | (go_at_call 21; (with_reducible refine (P7.out _).mono ?_); rintro e wq ⟨rfl, bq⟩) | (go_at_call 23; (with_reducible refine (P8.out _).mono ?_); rintro e wq ⟨rfl, bq⟩) | (go_at_call 8; (with_reducible refine (C0.out _ (KK.out.below (by first | exact FS.out _ (by assumption) | exact bstep (FS.out _ (by assumption)) (fresh_below _ _) | exact bstep (bstep (FS.out _ (by assumption)) (fresh_below _ _)) (fresh_below _ _)))).mono ?_); rintro e wq ⟨rfl, bq⟩))
      all_goals
        go_wp2
        go_ret
        exact ⟨rfl, (by first | exact FS.out _ (by assumption) | exact bstep (FS.out _ (by assumption)) (fresh_below _ _) | exact bstep (bstep (FS.out _ (by assumption)) (fresh_below _ _)) (fresh_below _ _))⟩
    · go_enter Tryd.func6, Tryd.ntmps6
      have d0 := Cells.new w #[.int .u8 t, .int .u8 c, .int .u16 n, .string r, .string d] 29
      go_wp2_with fail
      (with_reducible refine (P1.out _).mono ?_)
      rintro e w1 ⟨rfl, b1⟩
      replace d0 := Cells.up d0 (by (repeat' (first | with_reducible exact Below.refl _ _ | with_reducible refine bstep ?_ (fresh_below _ _) | with_reducible refine Below.drew ?_))) b1
      replace b1 : Below w.heap.size w w1 := by (refine bstep ?_ b1); (repeat' (first | with_reducible exact Below.refl _ _ | with_reducible refine Below.setCell ?_ (by first | exact Nat.le_refl _ | (dsimp only; omega)) _ | with_reducible refine bstep ?_ (fresh_below _ _) | with_reducible refine Below.drew ?_))
      have z1 : w.heap.size ≤ w1.heap.size := b1.size
      have ea := d0
      have xea_0 : w1.cell? ⟨w.heap.size, 0, none⟩ = some (.int .u8 t) := ea.at_ 0
      have xea_1 : w1.cell? ⟨w.heap.size, 1, none⟩ = some (.int .u8 c) := ea.at_ 1
      have xea_2 : w1.cell? ⟨w.heap.size, 2, none⟩ = some (.int .u16 n) := ea.at_ 2
      have xea_3 : w1.cell? ⟨w.heap.size, 3, none⟩ = some (.string r) := ea.at_ 3
      have xea_4 : w1.cell? ⟨w.heap.size, 4, none⟩ = some (.string d) := ea.at_ 4
      go_wp2_with fail
      (with_reducible refine (P2.out _).mono ?_)
      rintro e w2 ⟨rfl, b2⟩
      replace d0 := Cells.up d0 (by (repeat' (first | with_reducible exact Below.refl _ _ | with_reducible refine bstep ?_ (fresh_below _ _) | with_reducible refine Below.drew ?_))) b2
      replace b2 : Below w.heap.size w w2 := by (refine bstep ?_ b2); (repeat' (first | with_reducible exact b1 | with_reducible exact Below.refl _ _ | with_reducible refine Below.setCell ?_ (by first | exact Nat.le_refl _ | (dsimp only; omega)) _ | with_reducible refine bstep ?_ (fresh_below _ _) | with_reducible refine Below.drew ?_))
      have z2 : w.heap.size ≤ w2.heap.size := b2.size
      replace d0 := Cells.below (fresh_below w2 (.cells #[.int .u8 t, .int .u8 c, .int .u16 n, .string r, .string d] 29)) d0
      have d1 := Cells.new w2 #[.int .u8 t, .int .u8 c, .int .u16 n, .string r, .string d] 29
      have eb := d0
      have xeb_0 : (w2.alloc (.cells #[.int .u8 t, .int .u8 c, .int .u16 n, .string r, .string d] 29)).cell? ⟨w.heap.size, 0, none⟩ = some (.int .u8 t) := eb.at_ 0
      have xeb_1 : (w2.alloc (.cells #[.int .u8 t, .int .u8 c, .int .u16 n, .string r, .string d] 29)).cell? ⟨w.heap.size, 1, none⟩ = some (.int .u8 c) := eb.at_ 1
      have xeb_2 : (w2.alloc (.cells #[.int .u8 t, .int .u8 c, .int .u16 n, .string r, .string d] 29)).cell? ⟨w.heap.size, 2, none⟩ = some (.int .u16 n) := eb.at_ 2
      have xeb_3 : (w2.alloc (.cells #[.int .u8 t, .int .u8 c, .int .u16 n, .string r, .string d] 29)).cell? ⟨w.heap.size, 3, none⟩ = some (.string r) := eb.at_ 3
      have xeb_4 : (w2.alloc (.cells #[.int .u8 t, .int .u8 c, .int .u16 n, .string r, .string d] 29)).cell? ⟨w.heap.size, 4, none⟩ = some (.string d) := eb.at_ 4
      go_wp2_with fail
      (with_reducible refine (P3.out _).mono ?_)
      rintro e w3 ⟨rfl, b3⟩
      replace d0 := Cells.up d0 (by (repeat' (first | with_reducible exact Below.refl _ _ | with_reducible refine bstep ?_ (fresh_below _ _) | with_reducible refine Below.drew ?_))) b3
      replace b3 : Below w.heap.size w w3 := by (refine bstep ?_ b3); (repeat' (first | with_reducible exact b2 | with_reducible exact Below.refl _ _ | with_reducible refine Below.setCell ?_ (by first | exact Nat.le_refl _ | (dsimp only; omega)) _ | with_reducible refine bstep ?_ (fresh_below _ _) | with_reducible refine Below.drew ?_))
      have z3 : w.heap.size ≤ w3.heap.size := b3.size
      replace d0 := Cells.below (fresh_below w3 (.cells #[.int .u8 x1, .int .u8 x2, .int .u16 x3, .string x4, .string x5] 29)) d0
      have d2 := Cells.new w3 #[.int .u8 x1, .int .u8 x2, .int .u16 x3, .string x4, .string x5] 29
      go_wp2_with fail
      (with_reducible refine (P4.out _).mono ?_)
      rintro e w4 ⟨rfl, b4⟩
      replace d0 := Cells.up d0 (by (repeat' (first | with_reducible exact Below.refl _ _ | with_reducible refine bstep ?_ (fresh_below _ _) | with_reducible refine Below.drew ?_))) b4
      replace d2 := Cells.up d2 (by (repeat' (first | with_reducible exact Below.refl _ _ | with_reducible refine bstep ?_ (fresh_below _ _) | with_reducible refine Below.drew ?_))) b4
      replace b4 : Below w.heap.size w w4 := by (refine bstep ?_ b4); (repeat' (first | with_reducible exact b3 | with_reducible exact Below.refl _ _ | with_reducible refine Below.setCell ?_ (by first | exact Nat.le_refl _ | (dsimp only; omega)) _ | with_reducible refine bstep ?_ (fresh_below _ _) | with_reducible refine Below.drew ?_))
      have z4 : w.heap.size ≤ w4.heap.size := b4.size
      have ec := d0
      have xec_0 : w4.cell? ⟨w.heap.size, 0, none⟩ = some (.int .u8 t) := ec.at_ 0
      have xec_1 : w4.cell? ⟨w.heap.size, 1, none⟩ = some (.int .u8 c) := ec.at_ 1
      have xec_2 : w4.cell? ⟨w.heap.size, 2, none⟩ = some (.int .u16 n) := ec.at_ 2
      have xec_3 : w4.cell? ⟨w.heap.size, 3, none⟩ = some (.string r) := ec.at_ 3
      have xec_4 : w4.cell? ⟨w.heap.size, 4, none⟩ = some (.string d) := ec.at_ 4
      go_wp2_with fail
      (with_reducible refine (Q3.out _ (KK.out.below (by (repeat' (first | with_reducible exact b4 | with_reducible exact Below.refl _ _ | with_reducible refine Below.setCell ?_ (by first | exact Nat.le_refl _ | (dsimp only; omega)) _ | with_reducible refine bstep ?_ (fresh_below _ _) | with_reducible refine Below.drew ?_))))).mono ?_)
      rintro e w5 ⟨rfl, b5⟩
      replace d0 := Cells.up d0 (by (repeat' (first | with_reducible exact Below.refl _ _ | with_reducible refine bstep ?_ (fresh_below _ _) | with_reducible refine Below.drew ?_))) b5
      replace d2 := Cells.up d2 (by (repeat' (first | with_reducible exact Below.refl _ _ | with_reducible refine bstep ?_ (fresh_below _ _) | with_reducible refine Below.drew ?_))) b5
      replace b5 : Below w.heap.size w w5 := by (refine bstep ?_ b5); (repeat' (first | with_reducible exact b4 | with_reducible exact Below.refl _ _ | with_reducible refine Below.setCell ?_ (by first | exact Nat.le_refl _ | (dsimp only; omega)) _ | with_reducible refine bstep ?_ (fresh_below _ _) | with_reducible refine Below.drew ?_))
      have z5 : w.heap.size ≤ w5.heap.size := b5.size
      have ed := d0
      have ee := d2
      have xed_0 : w5.cell? ⟨w.heap.size, 0, none⟩ = some (.int .u8 t) := ed.at_ 0
      have xed_1 : w5.cell? ⟨w.heap.size, 1, none⟩ = some (.int .u8 c) := ed.at_ 1
      have xed_2 : w5.cell? ⟨w.heap.size, 2, none⟩ = some (.int .u16 n) := ed.at_ 2
      have xed_3 : w5.cell? ⟨w.heap.size, 3, none⟩ = some (.string r) := ed.at_ 3
      have xed_4 : w5.cell? ⟨w.heap.size, 4, none⟩ = some (.string d) := ed.at_ 4
      have xee_0 : w5.cell? ⟨w3.heap.size, 0, none⟩ = some (.int .u8 x1) := ee.at_ 0
      have xee_1 : w5.cell? ⟨w3.heap.size, 1, none⟩ = some (.int .u8 x2) := ee.at_ 1
      have xee_2 : w5.cell? ⟨w3.heap.size, 2, none⟩ = some (.int .u16 x3) := ee.at_ 2
      have xee_3 : w5.cell? ⟨w3.heap.size, 3, none⟩ = some (.string x4) := ee.at_ 3
      have xee_4 : w5.cell? ⟨w3.heap.size, 4, none⟩ = some (.string x5) := ee.at_ 4
      go_wp2_with fail
      (with_reducible refine (P5.out _).mono ?_)
      rintro e w7 ⟨rfl, b7⟩
      replace d2 := Cells.up d2 (by (repeat' (first | with_reducible exact Below.refl _ _ | with_reducible refine bstep ?_ (fresh_below _ _) | with_reducible refine Below.drew ?_))) b7
      replace b7 : Below w.heap.size w w7 := by (refine bstep ?_ b7); (repeat' (first | with_reducible exact b5 | with_reducible exact Below.refl _ _ | with_reducible refine Below.setCell ?_ (by first | exact Nat.le_refl _ | (dsimp only; omega)) _ | with_reducible refine bstep ?_ (fresh_below _ _) | with_reducible refine Below.drew ?_))
      have z7 : w.heap.size ≤ w7.heap.size := b7.size
      replace d2 := Cells.below (fresh_below w7 (.cells #[.int .u8 y1, .int .u8 y2, .int .u16 y3, .string y4, .string y5] 29)) d2
      have d3 := Cells.new w7 #[.int .u8 y1, .int .u8 y2, .int .u16 y3, .string y4, .string y5] 29
      go_wp2_with fail
      have SK := hide (fun (zX zY : World) (zh : (Below w.heap.size w zX ∧ zX.cell? ⟨w3.heap.size, 0, none⟩ = some (.int .u8 x1) ∧ zX.cell? ⟨w3.heap.size, 1, none⟩ = some (.int .u8 x2) ∧ zX.cell? ⟨w3.heap.size, 2, none⟩ = some (.int .u16 x3) ∧ zX.cell? ⟨w3.heap.size, 3, none⟩ = some (.string x4) ∧ zX.cell? ⟨w3.heap.size, 4, none⟩ = some (.string x5) ∧ zX.cell? ⟨w7.heap.size, 0, none⟩ = some (.int .u8 y1) ∧ zX.cell? ⟨w7.heap.size, 1, none⟩ = some (.int .u8 y2) ∧ zX.cell? ⟨w7.heap.size, 2, none⟩ = some (.int .u16 y3) ∧ zX.cell? ⟨w7.heap.size, 3, none⟩ = some (.string y4) ∧ zX.cell? ⟨w7.heap.size, 4, none⟩ = some (.string y5) ∧ True)) (zb : Below zX.heap.size zX zY) => (show (Below w.heap.size w zY ∧ zY.cell? ⟨w3.heap.size, 0, none⟩ = some (.int .u8 x1) ∧ zY.cell? ⟨w3.heap.size, 1, none⟩ = some (.int .u8 x2) ∧ zY.cell? ⟨w3.heap.size, 2, none⟩ = some (.int .u16 x3) ∧ zY.cell? ⟨w3.heap.size, 3, none⟩ = some (.string x4) ∧ zY.cell? ⟨w3.heap.size, 4, none⟩ = some (.string x5) ∧ zY.cell? ⟨w7.heap.size, 0, none⟩ = some (.int .u8 y1) ∧ zY.cell? ⟨w7.heap.size, 1, none⟩ = some (.int .u8 y2) ∧ zY.cell? ⟨w7.heap.size, 2, none⟩ = some (.int .u16 y3) ∧ zY.cell? ⟨w7.heap.size, 3, none⟩ = some (.string y4) ∧ zY.cell? ⟨w7.heap.size, 4, none⟩ = some (.string y5) ∧ True) from ⟨bstep zh.1 zb, cellAt zb zh.2.1, cellAt zb zh.2.2.1, cellAt zb zh.2.2.2.1, cellAt zb zh.2.2.2.2.1, cellAt zb zh.2.2.2.2.2.1, cellAt zb zh.2.2.2.2.2.2.1, cellAt zb zh.2.2.2.2.2.2.2.1, cellAt zb zh.2.2.2.2.2.2.2.2.1, cellAt zb zh.2.2.2.2.2.2.2.2.2.1, cellAt zb zh.2.2.2.2.2.2.2.2.2.2.1, trivial⟩))
      have FS := hide (fun (zX : World) (zh : (Below w.heap.size w zX ∧ zX.cell? ⟨w3.heap.size, 0, none⟩ = some (.int .u8 x1) ∧ zX.cell? ⟨w3.heap.size, 1, none⟩ = some (.int .u8 x2) ∧ zX.cell? ⟨w3.heap.size, 2, none⟩ = some (.int .u16 x3) ∧ zX.cell? ⟨w3.heap.size, 3, none⟩ = some (.string x4) ∧ zX.cell? ⟨w3.heap.size, 4, none⟩ = some (.string x5) ∧ zX.cell? ⟨w7.heap.size, 0, none⟩ = some (.int .u8 y1) ∧ zX.cell? ⟨w7.heap.size, 1, none⟩ = some (.int .u8 y2) ∧ zX.cell? ⟨w7.heap.size, 2, none⟩ = some (.int .u16 y3) ∧ zX.cell? ⟨w7.heap.size, 3, none⟩ = some (.string y4) ∧ zX.cell? ⟨w7.heap.size, 4, none⟩ = some (.string y5) ∧ True)) => zh.1)
      have GS := hide (fun (zX : World) (zh : (Below w.heap.size w zX ∧ zX.cell? ⟨w3.heap.size, 0, none⟩ = some (.int .u8 x1) ∧ zX.cell? ⟨w3.heap.size, 1, none⟩ = some (.int .u8 x2) ∧ zX.cell? ⟨w3.heap.size, 2, none⟩ = some (.int .u16 x3) ∧ zX.cell? ⟨w3.heap.size, 3, none⟩ = some (.string x4) ∧ zX.cell? ⟨w3.heap.size, 4, none⟩ = some (.string x5) ∧ zX.cell? ⟨w7.heap.size, 0, none⟩ = some (.int .u8 y1) ∧ zX.cell? ⟨w7.heap.size, 1, none⟩ = some (.int .u8 y2) ∧ zX.cell? ⟨w7.heap.size, 2, none⟩ = some (.int .u16 y3) ∧ zX.cell? ⟨w7.heap.size, 3, none⟩ = some (.string y4) ∧ zX.cell? ⟨w7.heap.size, 4, none⟩ = some (.string y5) ∧ True)) => zh)
      have hS0 : (Below w.heap.size w (w7.alloc (.cells #[.int .u8 y1, .int .u8 y2, .int .u16 y3, .string y4, .string y5] 29)) ∧ (w7.alloc (.cells #[.int .u8 y1, .int .u8 y2, .int .u16 y3, .string y4, .string y5] 29)).cell? ⟨w3.heap.size, 0, none⟩ = some (.int .u8 x1) ∧ (w7.alloc (.cells #[.int .u8 y1, .int .u8 y2, .int .u16 y3, .string y4, .string y5] 29)).cell? ⟨w3.heap.size, 1, none⟩ = some (.int .u8 x2) ∧ (w7.alloc (.cells #[.int .u8 y1, .int .u8 y2, .int .u16 y3, .string y4, .string y5] 29)).cell? ⟨w3.heap.size, 2, none⟩ = some (.int .u16 x3) ∧ (w7.alloc (.cells #[.int .u8 y1, .int .u8 y2, .int .u16 y3, .string y4, .string y5] 29)).cell? ⟨w3.heap.size, 3, none⟩ = some (.string x4) ∧ (w7.alloc (.cells #[.int .u8 y1, .int .u8 y2, .int .u16 y3, .string y4, .string y5] 29)).cell? ⟨w3.heap.size, 4, none⟩ = some (.string x5) ∧ (w7.alloc (.cells #[.int .u8 y1, .int .u8 y2, .int .u16 y3, .string y4, .string y5] 29)).cell? ⟨w7.heap.size, 0, none⟩ = some (.int .u8 y1) ∧ (w7.alloc (.cells #[.int .u8 y1, .int .u8 y2, .int .u16 y3, .string y4, .string y5] 29)).cell? ⟨w7.heap.size, 1, none⟩ = some (.int .u8 y2) ∧ (w7.alloc (.cells #[.int .u8 y1, .int .u8 y2, .int .u16 y3, .string y4, .string y5] 29)).cell? ⟨w7.heap.size, 2, none⟩ = some (.int .u16 y3) ∧ (w7.alloc (.cells #[.int .u8 y1, .int .u8 y2, .int .u16 y3, .string y4, .string y5] 29)).cell? ⟨w7.heap.size, 3, none⟩ = some (.string y4) ∧ (w7.alloc (.cells #[.int .u8 y1, .int .u8 y2, .int .u16 y3, .string y4, .string y5] 29)).cell? ⟨w7.heap.size, 4, none⟩ = some (.string y5) ∧ True) := ⟨(by (repeat' (first | with_reducible exact b7 | with_reducible exact Below.refl _ _ | with_reducible refine Below.setCell ?_ (by first | exact Nat.le_refl _ | (dsimp only; omega)) _ | with_reducible refine bstep ?_ (fresh_below _ _) | with_reducible refine Below.drew ?_))), d2.at_ 0, d2.at_ 1, d2.at_ 2, d2.at_ 3, d2.at_ 4, d3.at_ 0, d3.at_ 1, d3.at_ 2, d3.at_ 3, d3.at_ 4, trivial⟩
      go_region_held3 (fun w' => (Below w.heap.size w w' ∧ w'.cell? ⟨w3.heap.size, 0, none⟩ = some (.int .u8 x1) ∧ w'.cell? ⟨w3.heap.size, 1, none⟩ = some (.int .u8 x2) ∧ w'.cell? ⟨w3.heap.size, 2, none⟩ = some (.int .u16 x3) ∧ w'.cell? ⟨w3.heap.size, 3, none⟩ = some (.string x4) ∧ w'.cell? ⟨w3.heap.size, 4, none⟩ = some (.string x5) ∧ w'.cell? ⟨w7.heap.size, 0, none⟩ = some (.int .u8 y1) ∧ w'.cell? ⟨w7.heap.size, 1, none⟩ = some (.int .u8 y2) ∧ w'.cell? ⟨w7.heap.size, 2, none⟩ = some (.int .u16 y3) ∧ w'.cell? ⟨w7.heap.size, 3, none⟩ = some (.string y4) ∧ w'.cell? ⟨w7.heap.size, 4, none⟩ = some (.string y5) ∧ True)) (first | assumption | exact SK.out _ _ hS0 (Below.refl _ _).drew | exact SK.out _ _ hS0 (fresh_below _ _).drew | exact SK.out _ _ (by assumption) (fresh_below _ _) | (refine SK.out _ _ ?_ (by assumption); assumption))
        (first | (go_at_call 21; (with_reducible refine (P6.out _).mono ?_); rintro e wq ⟨rfl, bq⟩) | (go_at_call 21; (with_reducible refine (P7.out _).mono ?_); rintro e wq ⟨rfl, bq⟩) | (go_at_call 23; (with_reducible refine (P8.out _).mono ?_); rintro e wq ⟨rfl, bq⟩) | (go_at_call 8; (with_reducible refine (C0.out _ (KK.out.below (by first | exact FS.out _ (by assumption) | exact bstep (FS.out _ (by assumption)) (fresh_below _ _) | exact bstep (bstep (FS.out _ (by assumption)) (fresh_below _ _)) (fresh_below _ _)))).mono ?_); rintro e wq ⟨rfl, bq⟩))
      all_goals
        go_wp2
        go_ret
        exact ⟨rfl, (by first | exact FS.out _ (by assumption) | exact bstep (FS.out _ (by assumption)) (fresh_below _ _) | exact bstep (bstep (FS.out _ (by assumption)) (fresh_below _ _)) (fresh_below _ _))⟩
  · clear p8
    have z8 : decide ((8 : Int) ≤ (s.size : Int)) = false := by simp; omega
    rcases hv with ⟨rfl, rfl⟩ | rfl
    · go_enter Tryd.func6, Tryd.ntmps6
      have d0 := Cells.new w #[.int .u8 t, .int .u8 c, .int .u16 n, .string r, .string d] 29
      go_wp2_with fail
      (with_reducible refine (P1.out _).mono ?_)
      rintro e w1 ⟨rfl, b1⟩
      replace d0 := Cells.up d0 (by (repeat' (first | with_reducible exact Below.refl _ _ | with_reducible refine bstep ?_ (fresh_below _ _) | with_reducible refine Below.drew ?_))) b1
      replace b1 : Below w.heap.size w w1 := by (refine bstep ?_ b1); (repeat' (first | with_reducible exact Below.refl _ _ | with_reducible refine Below.setCell ?_ (by first | exact Nat.le_refl _ | (dsimp only; omega)) _ | with_reducible refine bstep ?_ (fresh_below _ _) | with_reducible refine Below.drew ?_))
      have z1 : w.heap.size ≤ w1.heap.size := b1.size
      have ea := d0
      have xea_0 : w1.cell? ⟨w.heap.size, 0, none⟩ = some (.int .u8 t) := ea.at_ 0
      have xea_1 : w1.cell? ⟨w.heap.size, 1, none⟩ = some (.int .u8 c) := ea.at_ 1
      have xea_2 : w1.cell? ⟨w.heap.size, 2, none⟩ = some (.int .u16 n) := ea.at_ 2
      have xea_3 : w1.cell? ⟨w.heap.size, 3, none⟩ = some (.string r) := ea.at_ 3
      have xea_4 : w1.cell? ⟨w.heap.size, 4, none⟩ = some (.string d) := ea.at_ 4
      go_wp2_with fail
      (with_reducible refine (P2.out _).mono ?_)
      rintro e w2 ⟨rfl, b2⟩
      replace d0 := Cells.up d0 (by (repeat' (first | with_reducible exact Below.refl _ _ | with_reducible refine bstep ?_ (fresh_below _ _) | with_reducible refine Below.drew ?_))) b2
      replace b2 : Below w.heap.size w w2 := by (refine bstep ?_ b2); (repeat' (first | with_reducible exact b1 | with_reducible exact Below.refl _ _ | with_reducible refine Below.setCell ?_ (by first | exact Nat.le_refl _ | (dsimp only; omega)) _ | with_reducible refine bstep ?_ (fresh_below _ _) | with_reducible refine Below.drew ?_))
      have z2 : w.heap.size ≤ w2.heap.size := b2.size
      replace d0 := Cells.below (fresh_below w2 (.cells #[.int .u8 t, .int .u8 c, .int .u16 n, .string r, .string d] 29)) d0
      have d1 := Cells.new w2 #[.int .u8 t, .int .u8 c, .int .u16 n, .string r, .string d] 29
      have eb := d0
      have xeb_0 : (w2.alloc (.cells #[.int .u8 t, .int .u8 c, .int .u16 n, .string r, .string d] 29)).cell? ⟨w.heap.size, 0, none⟩ = some (.int .u8 t) := eb.at_ 0
      have xeb_1 : (w2.alloc (.cells #[.int .u8 t, .int .u8 c, .int .u16 n, .string r, .string d] 29)).cell? ⟨w.heap.size, 1, none⟩ = some (.int .u8 c) := eb.at_ 1
      have xeb_2 : (w2.alloc (.cells #[.int .u8 t, .int .u8 c, .int .u16 n, .string r, .string d] 29)).cell? ⟨w.heap.size, 2, none⟩ = some (.int .u16 n) := eb.at_ 2
      have xeb_3 : (w2.alloc (.cells #[.int .u8 t, .int .u8 c, .int .u16 n, .string r, .string d] 29)).cell? ⟨w.heap.size, 3, none⟩ = some (.string r) := eb.at_ 3
      have xeb_4 : (w2.alloc (.cells #[.int .u8 t, .int .u8 c, .int .u16 n, .string r, .string d] 29)).cell? ⟨w.heap.size, 4, none⟩ = some (.string d) := eb.at_ 4
      go_wp2_with fail
      (with_reducible refine (P3.out _).mono ?_)
      rintro e w3 ⟨rfl, b3⟩
      replace d0 := Cells.up d0 (by (repeat' (first | with_reducible exact Below.refl _ _ | with_reducible refine bstep ?_ (fresh_below _ _) | with_reducible refine Below.drew ?_))) b3
      replace b3 : Below w.heap.size w w3 := by (refine bstep ?_ b3); (repeat' (first | with_reducible exact b2 | with_reducible exact Below.refl _ _ | with_reducible refine Below.setCell ?_ (by first | exact Nat.le_refl _ | (dsimp only; omega)) _ | with_reducible refine bstep ?_ (fresh_below _ _) | with_reducible refine Below.drew ?_))
      have z3 : w.heap.size ≤ w3.heap.size := b3.size
      replace d0 := Cells.below (fresh_below w3 (.cells #[.int .u8 x1, .int .u8 x2, .int .u16 x3, .string x4, .string x5] 29)) d0
      have d2 := Cells.new w3 #[.int .u8 x1, .int .u8 x2, .int .u16 x3, .string x4, .string x5] 29
      go_wp2_with fail
      (with_reducible refine (P4.out _).mono ?_)
      rintro e w4 ⟨rfl, b4⟩
      replace d0 := Cells.up d0 (by (repeat' (first | with_reducible exact Below.refl _ _ | with_reducible refine bstep ?_ (fresh_below _ _) | with_reducible refine Below.drew ?_))) b4
      replace d2 := Cells.up d2 (by (repeat' (first | with_reducible exact Below.refl _ _ | with_reducible refine bstep ?_ (fresh_below _ _) | with_reducible refine Below.drew ?_))) b4
      replace b4 : Below w.heap.size w w4 := by (refine bstep ?_ b4); (repeat' (first | with_reducible exact b3 | with_reducible exact Below.refl _ _ | with_reducible refine Below.setCell ?_ (by first | exact Nat.le_refl _ | (dsimp only; omega)) _ | with_reducible refine bstep ?_ (fresh_below _ _) | with_reducible refine Below.drew ?_))
      have z4 : w.heap.size ≤ w4.heap.size := b4.size
      have ec := d0
      have xec_0 : w4.cell? ⟨w.heap.size, 0, none⟩ = some (.int .u8 t) := ec.at_ 0
      have xec_1 : w4.cell? ⟨w.heap.size, 1, none⟩ = some (.int .u8 c) := ec.at_ 1
      have xec_2 : w4.cell? ⟨w.heap.size, 2, none⟩ = some (.int .u16 n) := ec.at_ 2
      have xec_3 : w4.cell? ⟨w.heap.size, 3, none⟩ = some (.string r) := ec.at_ 3
      have xec_4 : w4.cell? ⟨w.heap.size, 4, none⟩ = some (.string d) := ec.at_ 4
      go_wp2_with fail
      (with_reducible refine (Q3.out _ (KK.out.below (by (repeat' (first | with_reducible exact b4 | with_reducible exact Below.refl _ _ | with_reducible refine Below.setCell ?_ (by first | exact Nat.le_refl _ | (dsimp only; omega)) _ | with_reducible refine bstep ?_ (fresh_below _ _) | with_reducible refine Below.drew ?_))))).mono ?_)
      rintro e w5 ⟨rfl, b5⟩
      replace d0 := Cells.up d0 (by (repeat' (first | with_reducible exact Below.refl _ _ | with_reducible refine bstep ?_ (fresh_below _ _) | with_reducible refine Below.drew ?_))) b5
      replace d2 := Cells.up d2 (by (repeat' (first | with_reducible exact Below.refl _ _ | with_reducible refine bstep ?_ (fresh_below _ _) | with_reducible refine Below.drew ?_))) b5
      replace b5 : Below w.heap.size w w5 := by (refine bstep ?_ b5); (repeat' (first | with_reducible exact b4 | with_reducible exact Below.refl _ _ | with_reducible refine Below.setCell ?_ (by first | exact Nat.le_refl _ | (dsimp only; omega)) _ | with_reducible refine bstep ?_ (fresh_below _ _) | with_reducible refine Below.drew ?_))
      have z5 : w.heap.size ≤ w5.heap.size := b5.size
      have ed := d0
      have ee := d2
      have xed_0 : w5.cell? ⟨w.heap.size, 0, none⟩ = some (.int .u8 t) := ed.at_ 0
      have xed_1 : w5.cell? ⟨w.heap.size, 1, none⟩ = some (.int .u8 c) := ed.at_ 1
      have xed_2 : w5.cell? ⟨w.heap.size, 2, none⟩ = some (.int .u16 n) := ed.at_ 2
      have xed_3 : w5.cell? ⟨w.heap.size, 3, none⟩ = some (.string r) := ed.at_ 3
      have xed_4 : w5.cell? ⟨w.heap.size, 4, none⟩ = some (.string d) := ed.at_ 4
      have xee_0 : w5.cell? ⟨w3.heap.size, 0, none⟩ = some (.int .u8 x1) := ee.at_ 0
      have xee_1 : w5.cell? ⟨w3.heap.size, 1, none⟩ = some (.int .u8 x2) := ee.at_ 1
      have xee_2 : w5.cell? ⟨w3.heap.size, 2, none⟩ = some (.int .u16 x3) := ee.at_ 2
      have xee_3 : w5.cell? ⟨w3.heap.size, 3, none⟩ = some (.string x4) := ee.at_ 3
      have xee_4 : w5.cell? ⟨w3.heap.size, 4, none⟩ = some (.string x5) := ee.at_ 4
      go_wp2_with fail
      (with_reducible refine (Q5.out _ (KK.out.below (by (repeat' (first | with_reducible exact b5 | with_reducible exact Below.refl _ _ | with_reducible refine Below.setCell ?_ (by first | exact Nat.le_refl _ | (dsimp only; omega)) _ | with_reducible refine bstep ?_ (fresh_below _ _) | with_reducible refine Below.drew ?_))))).mono ?_)
      rintro e w6 ⟨rfl, b6⟩
      replace d0 := Cells.up d0 (by (repeat' (first | with_reducible exact Below.refl _ _ | with_reducible refine bstep ?_ (fresh_below _ _) | with_reducible refine Below.drew ?_))) b6
      replace d2 := Cells.up d2 (by (repeat' (first | with_reducible exact Below.refl _ _ | with_reducible refine bstep ?_ (fresh_below _ _) | with_reducible refine Below.drew ?_))) b6
      replace b6 : Below w.heap.size w w6 := by (refine bstep ?_ b6); (repeat' (first | with_reducible exact b5 | with_reducible exact Below.refl _ _ | with_reducible refine Below.setCell ?_ (by first | exact Nat.le_refl _ | (dsimp only; omega)) _ | with_reducible refine bstep ?_ (fresh_below _ _) | with_reducible refine Below.drew ?_))
      have z6 : w.heap.size ≤ w6.heap.size := b6.size
      have ef := d2
      have xef_0 : w6.cell? ⟨w3.heap.size, 0, none⟩ = some (.int .u8 x1) := ef.at_ 0
      have xef_1 : w6.cell? ⟨w3.heap.size, 1, none⟩ = some (.int .u8 x2) := ef.at_ 1
      have xef_2 : w6.cell? ⟨w3.heap.size, 2, none⟩ = some (.int .u16 x3) := ef.at_ 2
      have xef_3 : w6.cell? ⟨w3.heap.size, 3, none⟩ = some (.string x4) := ef.at_ 3
      have xef_4 : w6.cell? ⟨w3.heap.size, 4, none⟩ = some (.string x5) := ef.at_ 4
      go_wp2_with fail
      (with_reducible refine (P5.out _).mono ?_)
      rintro e w7 ⟨rfl, b7⟩
      replace d2 := Cells.up d2 (by (repeat' (first | with_reducible exact Below.refl _ _ | with_reducible refine bstep ?_ (fresh_below _ _) | with_reducible refine Below.drew ?_))) b7
      replace b7 : Below w.heap.size w w7 := by (refine bstep ?_ b7); (repeat' (first | with_reducible exact b6 | with_reducible exact Below.refl _ _ | with_reducible refine Below.setCell ?_ (by first | exact Nat.le_refl _ | (dsimp only; omega)) _ | with_reducible refine bstep ?_ (fresh_below _ _) | with_reducible refine Below.drew ?_))
      have z7 : w.heap.size ≤ w7.heap.size := b7.size
      replace d2 := Cells.below (fresh_below w7 (.cells #[.int .u8 y1, .int .u8 y2, .int .u16 y3, .string y4, .string y5] 29)) d2
      have d3 := Cells.new w7 #[.int .u8 y1, .int .u8 y2, .int .u16 y3, .string y4, .string y5] 29
      go_wp2_with fail
      refine wp_region_held_drew (S := fun _ => True) (by kernel_rfl) trivial (fun _ => ?_)
      refine wpAnyH_take (i := 0) (v := ?v0_1) rfl (by kernel_rfl) (by kernel_rfl) (by kernel_rfl) (fun _ _ _ h => h) (Or.inl (And.intro (by kernel_rfl) ?q0_1)) trivial ?r0_1; (case q0_1 => (intro w _; (try dsimp only); (try go_simp); (try with_reducible rfl)))
      try simp only [Act.put, List.setIfInBounds_toArray, List.set_cons_zero, List.set_cons_succ, List.getElem_toArray, List.getElem_cons_succ, List.getElem_cons_zero]
      refine wpAnyH_take (i := 1) (v := ?v1_2) rfl (by kernel_rfl) (by kernel_rfl) (by kernel_rfl) (fun _ _ _ h => h) (Or.inl (And.intro (by kernel_rfl) ?q1_2)) trivial ?r1_2; (case q1_2 => (intro w _; (try dsimp only); (try go_simp); (try with_reducible rfl)))
      try simp only [Act.put, List.setIfInBounds_toArray, List.set_cons_zero, List.set_cons_succ, List.getElem_toArray, List.getElem_cons_succ, List.getElem_cons_zero]
      refine wpAnyH_take (i := 2) (v := ?v2_3) rfl (by kernel_rfl) (by kernel_rfl) (by kernel_rfl) (fun _ _ _ h => h) (Or.inl (And.intro (by kernel_rfl) ?q2_3)) trivial ?r2_3; (case q2_3 => (intro w _; (try dsimp only); (try go_simp); (try with_reducible rfl)))
      try simp only [Act.put, List.setIfInBounds_toArray, List.set_cons_zero, List.set_cons_succ, List.getElem_toArray, List.getElem_cons_succ, List.getElem_cons_zero]
      refine wpAnyH_take (i := 3) (v := undef) rfl (by kernel_rfl) (by kernel_rfl) (by kernel_rfl) (fun _ _ _ h => h) (Or.inr (And.intro (by kernel_rfl) rfl)) trivial ?r3_4
      try simp only [Act.put, List.setIfInBounds_toArray, List.set_cons_zero, List.set_cons_succ, List.getElem_toArray, List.getElem_cons_succ, List.getElem_cons_zero]
      refine wpAnyH_take (i := 4) (v := undef) rfl (by kernel_rfl) (by kernel_rfl) (by kernel_rfl) (fun _ _ _ h => h) (Or.inr (And.intro (by kernel_rfl) rfl)) trivial ?r4_5
      try simp only [Act.put, List.setIfInBounds_toArray, List.set_cons_zero, List.set_cons_succ, List.getElem_toArray, List.getElem_cons_succ, List.getElem_cons_zero]
      refine wpAnyH_take (i := 5) (v := undef) rfl (by kernel_rfl) (by kernel_rfl) (by kernel_rfl) (fun _ _ _ h => h) (Or.inr (And.intro (by kernel_rfl) rfl)) trivial ?r5_6
      try simp only [Act.put, List.setIfInBounds_toArray, List.set_cons_zero, List.set_cons_succ, List.getElem_toArray, List.getElem_cons_succ, List.getElem_cons_zero]
      refine wpAnyH_take (i := 6) (v := undef) rfl (by kernel_rfl) (by kernel_rfl) (by kernel_rfl) (fun _ _ _ h => h) (Or.inr (And.intro (by kernel_rfl) rfl)) trivial ?r6_7
      try simp only [Act.put, List.setIfInBounds_toArray, List.set_cons_zero, List.set_cons_succ, List.getElem_toArray, List.getElem_cons_succ, List.getElem_cons_zero]
      refine wpAnyH_take (i := 7) (v := undef) rfl (by kernel_rfl) (by kernel_rfl) (by kernel_rfl) (fun _ _ _ h => h) (Or.inr (And.intro (by kernel_rfl) rfl)) trivial ?r7_8
      try simp only [Act.put, List.setIfInBounds_toArray, List.set_cons_zero, List.set_cons_succ, List.getElem_toArray, List.getElem_cons_succ, List.getElem_cons_zero]
      refine wpAnyH_take (i := 8) (v := undef) rfl (by kernel_rfl) (by kernel_rfl) (by kernel_rfl) (fun _ _ _ h => h) (Or.inr (And.intro (by kernel_rfl) rfl)) trivial ?r8_9
      try simp only [Act.put, List.setIfInBounds_toArray, List.set_cons_zero, List.set_cons_succ, List.getElem_toArray, List.getElem_cons_succ, List.getElem_cons_zero]
      refine wpAnyH_take (i := 9) (v := undef) rfl (by kernel_rfl) (by kernel_rfl) (by kernel_rfl) (fun _ _ _ h => h) (Or.inr (And.intro (by kernel_rfl) rfl)) trivial ?r9_10
      try simp only [Act.put, List.setIfInBounds_toArray, List.set_cons_zero, List.set_cons_succ, List.getElem_toArray, List.getElem_cons_succ, List.getElem_cons_zero]
      refine wpAnyH_take (i := 10) (v := undef) rfl (by kernel_rfl) (by kernel_rfl) (by kernel_rfl) (fun _ _ _ h => h) (Or.inr (And.intro (by kernel_rfl) rfl)) trivial ?r10_11
      try simp only [Act.put, List.setIfInBounds_toArray, List.set_cons_zero, List.set_cons_succ, List.getElem_toArray, List.getElem_cons_succ, List.getElem_cons_zero]
      refine wpAnyH_take (i := 11) (v := undef) rfl (by kernel_rfl) (by kernel_rfl) (by kernel_rfl) (fun _ _ _ h => h) (Or.inr (And.intro (by kernel_rfl) rfl)) trivial ?r11_12
      try simp only [Act.put, List.setIfInBounds_toArray, List.set_cons_zero, List.set_cons_succ, List.getElem_toArray, List.getElem_cons_succ, List.getElem_cons_zero]
      refine wpAnyH_take (i := 12) (v := undef) rfl (by kernel_rfl) (by kernel_rfl) (by kernel_rfl) (fun _ _ _ h => h) (Or.inr (And.intro (by kernel_rfl) rfl)) trivial ?r12_13
      try simp only [Act.put, List.setIfInBounds_toArray, List.set_cons_zero, List.set_cons_succ, List.getElem_toArray, List.getElem_cons_succ, List.getElem_cons_zero]
      refine wpAnyH_take (i := 13) (v := undef) rfl (by kernel_rfl) (by kernel_rfl) (by kernel_rfl) (fun _ _ _ h => h) (Or.inr (And.intro (by kernel_rfl) rfl)) trivial ?r13_14
      try simp only [Act.put, List.setIfInBounds_toArray, List.set_cons_zero, List.set_cons_succ, List.getElem_toArray, List.getElem_cons_succ, List.getElem_cons_zero]
      refine wpAnyH_take (i := 14) (v := undef) rfl (by kernel_rfl) (by kernel_rfl) (by kernel_rfl) (fun _ _ _ h => h) (Or.inr (And.intro (by kernel_rfl) rfl)) trivial ?r14_15
      try simp only [Act.put, List.setIfInBounds_toArray, List.set_cons_zero, List.set_cons_succ, List.getElem_toArray, List.getElem_cons_succ, List.getElem_cons_zero]
      refine wpAnyH_take (i := 15) (v := ?v15_16) rfl (by kernel_rfl) (by kernel_rfl) (by kernel_rfl) (fun _ _ _ h => h) (Or.inl (And.intro (by kernel_rfl) ?q15_16)) trivial ?r15_16; (case q15_16 => (intro w _; (try dsimp only); (try go_simp); (try with_reducible rfl)))
      try simp only [Act.put, List.setIfInBounds_toArray, List.set_cons_zero, List.set_cons_succ, List.getElem_toArray, List.getElem_cons_succ, List.getElem_cons_zero]
      refine wpAnyH_take (i := 16) (v := ?v16_17) rfl (by kernel_rfl) (by kernel_rfl) (by kernel_rfl) (fun _ _ _ h => h) (Or.inl (And.intro (by kernel_rfl) ?q16_17)) trivial ?r16_17; (case q16_17 => (intro w _; (try dsimp only); (try go_simp); (try with_reducible rfl)))
      try simp only [Act.put, List.setIfInBounds_toArray, List.set_cons_zero, List.set_cons_succ, List.getElem_toArray, List.getElem_cons_succ, List.getElem_cons_zero]
      refine wpAnyH_ready (rs := [17]) (by kernel_rfl) (by simp) ?_
      refine AllReadyH.cons rfl (fun K hK => ?_) AllReadyH.nil
      rw [if_pos (by kernel_rfl)]
      (try simp only [List.getElem_toArray, List.getElem_cons_succ, List.getElem_cons_zero])
      go_simp
      (with_reducible refine (C0.out _ (KK.out.below (by (repeat' (first | with_reducible exact b7 | with_reducible exact Below.refl _ _ | with_reducible refine Below.setCell ?_ (by first | exact Nat.le_refl _ | (dsimp only; omega)) _ | with_reducible refine bstep ?_ (fresh_below _ _) | with_reducible refine Below.drew ?_))))).mono ?_)
      rintro e wJ17 ⟨rfl, bJ17⟩
      replace bJ17 : Below w.heap.size w wJ17 := by (refine bstep ?_ bJ17); (repeat' (first | with_reducible exact b7 | with_reducible exact Below.refl _ _ | with_reducible refine Below.setCell ?_ (by first | exact Nat.le_refl _ | (dsimp only; omega)) _ | with_reducible refine bstep ?_ (fresh_below _ _) | with_reducible refine Below.drew ?_))
      try go_wp2_with fail
      refine hK.out _ _ trivial (fun _ => ?_)
      clear hK K
      try simp only [Act.put, List.setIfInBounds_toArray, List.set_cons_zero, List.set_cons_succ, List.getElem_toArray, List.getElem_cons_succ, List.getElem_cons_zero]
      refine wpAnyH_take (i := 18) (v := ?v18_19) rfl (by kernel_rfl) (by kernel_rfl) (by kernel_rfl) (fun _ _ _ h => h) (Or.inl (And.intro (by kernel_rfl) ?q18_19)) trivial ?r18_19; (case q18_19 => (intro w _; (try dsimp only); (try go_simp); (try with_reducible rfl)))
      try simp only [Act.put, List.setIfInBounds_toArray, List.set_cons_zero, List.set_cons_succ, List.getElem_toArray, List.getElem_cons_succ, List.getElem_cons_zero]
      refine wpAnyH_take (i := 19) (v := ?v19_20) rfl (by kernel_rfl) (by kernel_rfl) (by kernel_rfl) (fun _ _ _ h => h) (Or.inl (And.intro (by kernel_rfl) ?q19_20)) trivial ?r19_20; (case q19_20 => (intro w _; (try dsimp only); (try go_simp); (try with_reducible rfl)))
      try simp only [Act.put, List.setIfInBounds_toArray, List.set_cons_zero, List.set_cons_succ, List.getElem_toArray, List.getElem_cons_succ, List.getElem_cons_zero]
      refine wpAnyH_done (by kernel_rfl) ?_ _
      go_wp2
      go_ret
      exact ⟨rfl, (by (repeat' (first | with_reducible exact bJ17 | with_reducible exact Below.refl _ _ | with_reducible refine Below.setCell ?_ (by first | exact Nat.le_refl _ | (dsimp only; omega)) _ | with_reducible refine bstep ?_ (fresh_below _ _) | with_reducible refine Below.drew ?_)))⟩
    · go_enter Tryd.func6, Tryd.ntmps6
      have d0 := Cells.new w #[.int .u8 t, .int .u8 c, .int .u16 n, .string r, .string d] 29
      go_wp2_with fail
      (with_reducible refine (P1.out _).mono ?_)
      rintro e w1 ⟨rfl, b1⟩
      replace d0 := Cells.up d0 (by (repeat' (first | with_reducible exact Below.refl _ _ | with_reducible refine bstep ?_ (fresh_below _ _) | with_reducible refine Below.drew ?_))) b1
      replace b1 : Below w.heap.size w w1 := by (refine bstep ?_ b1); (repeat' (first | with_reducible exact Below.refl _ _ | with_reducible refine Below.setCell ?_ (by first | exact Nat.le_refl _ | (dsimp only; omega)) _ | with_reducible refine bstep ?_ (fresh_below _ _) | with_reducible refine Below.drew ?_))
      have z1 : w.heap.size ≤ w1.heap.size := b1.size
      have ea := d0
      have xea_0 : w1.cell? ⟨w.heap.size, 0, none⟩ = some (.int .u8 t) := ea.at_ 0
      have xea_1 : w1.cell? ⟨w.heap.size, 1, none⟩ = some (.int .u8 c) := ea.at_ 1
      have xea_2 : w1.cell? ⟨w.heap.size, 2, none⟩ = some (.int .u16 n) := ea.at_ 2
      have xea_3 : w1.cell? ⟨w.heap.size, 3, none⟩ = some (.string r) := ea.at_ 3
      have xea_4 : w1.cell? ⟨w.heap.size, 4, none⟩ = some (.string d) := ea.at_ 4
      go_wp2_with fail
      (with_reducible refine (P2.out _).mono ?_)
      rintro e w2 ⟨rfl, b2⟩
      replace d0 := Cells.up d0 (by (repeat' (first | with_reducible exact Below.refl _ _ | with_reducible refine bstep ?_ (fresh_below _ _) | with_reducible refine Below.drew ?_))) b2
      replace b2 : Below w.heap.size w w2 := by (refine bstep ?_ b2); (repeat' (first | with_reducible exact b1 | with_reducible exact Below.refl _ _ | with_reducible refine Below.setCell ?_ (by first | exact Nat.le_refl _ | (dsimp only; omega)) _ | with_reducible refine bstep ?_ (fresh_below _ _) | with_reducible refine Below.drew ?_))
      have z2 : w.heap.size ≤ w2.heap.size := b2.size
      replace d0 := Cells.below (fresh_below w2 (.cells #[.int .u8 t, .int .u8 c, .int .u16 n, .string r, .string d] 29)) d0
      have d1 := Cells.new w2 #[.int .u8 t, .int .u8 c, .int .u16 n, .string r, .string d] 29
      have eb := d0
      have xeb_0 : (w2.alloc (.cells #[.int .u8 t, .int .u8 c, .int .u16 n, .string r, .string d] 29)).cell? ⟨w.heap.size, 0, none⟩ = some (.int .u8 t) := eb.at_ 0
      have xeb_1 : (w2.alloc (.cells #[.int .u8 t, .int .u8 c, .int .u16 n, .string r, .string d] 29)).cell? ⟨w.heap.size, 1, none⟩ = some (.int .u8 c) := eb.at_ 1
      have xeb_2 : (w2.alloc (.cells #[.int .u8 t, .int .u8 c, .int .u16 n, .string r, .string d] 29)).cell? ⟨w.heap.size, 2, none⟩ = some (.int .u16 n) := eb.at_ 2
      have xeb_3 : (w2.alloc (.cells #[.int .u8 t, .int .u8 c, .int .u16 n, .string r, .string d] 29)).cell? ⟨w.heap.size, 3, none⟩ = some (.string r) := eb.at_ 3
      have xeb_4 : (w2.alloc (.cells #[.int .u8 t, .int .u8 c, .int .u16 n, .string r, .string d] 29)).cell? ⟨w.heap.size, 4, none⟩ = some (.string d) := eb.at_ 4
      go_wp2_with fail
      (with_reducible refine (P3.out _).mono ?_)
      rintro e w3 ⟨rfl, b3⟩
      replace d0 := Cells.up d0 (by (repeat' (first | with_reducible exact Below.refl _ _ | with_reducible refine bstep ?_ (fresh_below _ _) | with_reducible refine Below.drew ?_))) b3
      replace b3 : Below w.heap.size w w3 := by (refine bstep ?_ b3); (repeat' (first | with_reducible exact b2 | with_reducible exact Below.refl _ _ | with_reducible refine Below.setCell ?_ (by first | exact Nat.le_refl _ | (dsimp only; omega)) _ | with_reducible refine bstep ?_ (fresh_below _ _) | with_reducible refine Below.drew ?_))
      have z3 : w.heap.size ≤ w3.heap.size := b3.size
      replace d0 := Cells.below (fresh_below w3 (.cells #[.int .u8 x1, .int .u8 x2, .int .u16 x3, .string x4, .string x5] 29)) d0
      have d2 := Cells.new w3 #[.int .u8 x1, .int .u8 x2, .int .u16 x3, .string x4, .string x5] 29
      go_wp2_with fail
      (with_reducible refine (P4.out _).mono ?_)
      rintro e w4 ⟨rfl, b4⟩
      replace d0 := Cells.up d0 (by (repeat' (first | with_reducible exact Below.refl _ _ | with_reducible refine bstep ?_ (fresh_below _ _) | with_reducible refine Below.drew ?_))) b4
      replace d2 := Cells.up d2 (by (repeat' (first | with_reducible exact Below.refl _ _ | with_reducible refine bstep ?_ (fresh_below _ _) | with_reducible refine Below.drew ?_))) b4
      replace b4 : Below w.heap.size w w4 := by (refine bstep ?_ b4); (repeat' (first | with_reducible exact b3 | with_reducible exact Below.refl _ _ | with_reducible refine Below.setCell ?_ (by first | exact Nat.le_refl _ | (dsimp only; omega)) _ | with_reducible refine bstep ?_ (fresh_below _ _) | with_reducible refine Below.drew ?_))
      have z4 : w.heap.size ≤ w4.heap.size := b4.size
      have ec := d0
      have xec_0 : w4.cell? ⟨w.heap.size, 0, none⟩ = some (.int .u8 t) := ec.at_ 0
      have xec_1 : w4.cell? ⟨w.heap.size, 1, none⟩ = some (.int .u8 c) := ec.at_ 1
      have xec_2 : w4.cell? ⟨w.heap.size, 2, none⟩ = some (.int .u16 n) := ec.at_ 2
      have xec_3 : w4.cell? ⟨w.heap.size, 3, none⟩ = some (.string r) := ec.at_ 3
      have xec_4 : w4.cell? ⟨w.heap.size, 4, none⟩ = some (.string d) := ec.at_ 4
      go_wp2_with fail
      (with_reducible refine (Q3.out _ (KK.out.below (by (repeat' (first | with_reducible exact b4 | with_reducible exact Below.refl _ _ | with_reducible refine Below.setCell ?_ (by first | exact Nat.le_refl _ | (dsimp only; omega)) _ | with_reducible refine bstep ?_ (fresh_below _ _) | with_reducible refine Below.drew ?_))))).mono ?_)
      rintro e w5 ⟨rfl, b5⟩
      replace d0 := Cells.up d0 (by (repeat' (first | with_reducible exact Below.refl _ _ | with_reducible refine bstep ?_ (fresh_below _ _) | with_reducible refine Below.drew ?_))) b5
      replace d2 := Cells.up d2 (by (repeat' (first | with_reducible exact Below.refl _ _ | with_reducible refine bstep ?_ (fresh_below _ _) | with_reducible refine Below.drew ?_))) b5
      replace b5 : Below w.heap.size w w5 := by (refine bstep ?_ b5); (repeat' (first | with_reducible exact b4 | with_reducible exact Below.refl _ _ | with_reducible refine Below.setCell ?_ (by first | exact Nat.le_refl _ | (dsimp only; omega)) _ | with_reducible refine bstep ?_ (fresh_below _ _) | with_reducible refine Below.drew ?_))
      have z5 : w.heap.size ≤ w5.heap.size := b5.size
      have ed := d0
      have ee := d2
      have xed_0 : w5.cell? ⟨w.heap.size, 0, none⟩ = some (.int .u8 t) := ed.at_ 0
      have xed_1 : w5.cell? ⟨w.heap.size, 1, none⟩ = some (.int .u8 c) := ed.at_ 1
      have xed_2 : w5.cell? ⟨w.heap.size, 2, none⟩ = some (.int .u16 n) := ed.at_ 2
      have xed_3 : w5.cell? ⟨w.heap.size, 3, none⟩ = some (.string r) := ed.at_ 3
      have xed_4 : w5.cell? ⟨w.heap.size, 4, none⟩ = some (.string d) := ed.at_ 4
      have xee_0 : w5.cell? ⟨w3.heap.size, 0, none⟩ = some (.int .u8 x1) := ee.at_ 0
      have xee_1 : w5.cell? ⟨w3.heap.size, 1, none⟩ = some (.int .u8 x2) := ee.at_ 1
      have xee_2 : w5.cell? ⟨w3.heap.size, 2, none⟩ = some (.int .u16 x3) := ee.at_ 2
      have xee_3 : w5.cell? ⟨w3.heap.size, 3, none⟩ = some (.string x4) := ee.at_ 3
      have xee_4 : w5.cell? ⟨w3.heap.size, 4, none⟩ = some (.string x5) := ee.at_ 4
      go_wp2_with fail
      (with_reducible refine (P5.out _).mono ?_)
      rintro e w7 ⟨rfl, b7⟩
      replace d2 := Cells.up d2 (by (repeat' (first | with_reducible exact Below.refl _ _ | with_reducible refine bstep ?_ (fresh_below _ _) | with_reducible refine Below.drew ?_))) b7
      replace b7 : Below w.heap.size w w7 := by (refine bstep ?_ b7); (repeat' (first | with_reducible exact b5 | with_reducible exact Below.refl _ _ | with_reducible refine Below.setCell ?_ (by first | exact Nat.le_refl _ | (dsimp only; omega)) _ | with_reducible refine bstep ?_ (fresh_below _ _) | with_reducible refine Below.drew ?_))
      have z7 : w.heap.size ≤ w7.heap.size := b7.size
      replace d2 := Cells.below (fresh_below w7 (.cells #[.int .u8 y1, .int .u8 y2, .int .u16 y3, .string y4, .string y5] 29)) d2
      have d3 := Cells.new w7 #[.int .u8 y1, .int .u8 y2, .int .u16 y3, .string y4, .string y5] 29
      go_wp2_with fail
      refine wp_region_held_drew (S := fun _ => True) (by kernel_rfl) trivial (fun _ => ?_)
      refine wpAnyH_take (i := 0) (v := ?v0_21) rfl (by kernel_rfl) (by kernel_rfl) (by kernel_rfl) (fun _ _ _ h => h) (Or.inl (And.intro (by kernel_rfl) ?q0_21)) trivial ?r0_21; (case q0_21 => (intro w _; (try dsimp only); (try go_simp); (try with_reducible rfl)))
      try simp only [Act.put, List.setIfInBounds_toArray, List.set_cons_zero, List.set_cons_succ, List.getElem_toArray, List.getElem_cons_succ, List.getElem_cons_zero]
      refine wpAnyH_take (i := 1) (v := ?v1_22) rfl (by kernel_rfl) (by kernel_rfl) (by kernel_rfl) (fun _ _ _ h => h) (Or.inl (And.intro (by kernel_rfl) ?q1_22)) trivial ?r1_22; (case q1_22 => (intro w _; (try dsimp only); (try go_simp); (try with_reducible rfl)))
      try simp only [Act.put, List.setIfInBounds_toArray, List.set_cons_zero, List.set_cons_succ, List.getElem_toArray, List.getElem_cons_succ, List.getElem_cons_zero]
      refine wpAnyH_take (i := 2) (v := ?v2_23) rfl (by kernel_rfl) (by kernel_rfl) (by kernel_rfl) (fun _ _ _ h => h) (Or.inl (And.intro (by kernel_rfl) ?q2_23)) trivial ?r2_23; (case q2_23 => (intro w _; (try dsimp only); (try go_simp); (try with_reducible rfl)))
      try simp only [Act.put, List.setIfInBounds_toArray, List.set_cons_zero, List.set_cons_succ, List.getElem_toArray, List.getElem_cons_succ, List.getElem_cons_zero]
      refine wpAnyH_take (i := 3) (v := undef) rfl (by kernel_rfl) (by kernel_rfl) (by kernel_rfl) (fun _ _ _ h => h) (Or.inr (And.intro (by kernel_rfl) rfl)) trivial ?r3_24
      try simp only [Act.put, List.setIfInBounds_toArray, List.set_cons_zero, List.set_cons_succ, List.getElem_toArray, List.getElem_cons_succ, List.getElem_cons_zero]
      refine wpAnyH_take (i := 4) (v := undef) rfl (by kernel_rfl) (by kernel_rfl) (by kernel_rfl) (fun _ _ _ h => h) (Or.inr (And.intro (by kernel_rfl) rfl)) trivial ?r4_25
      try simp only [Act.put, List.setIfInBounds_toArray, List.set_cons_zero, List.set_cons_succ, List.getElem_toArray, List.getElem_cons_succ, List.getElem_cons_zero]
      refine wpAnyH_take (i := 5) (v := undef) rfl (by kernel_rfl) (by kernel_rfl) (by kernel_rfl) (fun _ _ _ h => h) (Or.inr (And.intro (by kernel_rfl) rfl)) trivial ?r5_26
      try simp only [Act.put, List.setIfInBounds_toArray, List.set_cons_zero, List.set_cons_succ, List.getElem_toArray, List.getElem_cons_succ, List.getElem_cons_zero]
      refine wpAnyH_take (i := 6) (v := undef) rfl (by kernel_rfl) (by kernel_rfl) (by kernel_rfl) (fun _ _ _ h => h) (Or.inr (And.intro (by kernel_rfl) rfl)) trivial ?r6_27
      try simp only [Act.put, List.setIfInBounds_toArray, List.set_cons_zero, List.set_cons_succ, List.getElem_toArray, List.getElem_cons_succ, List.getElem_cons_zero]
      refine wpAnyH_take (i := 7) (v := undef) rfl (by kernel_rfl) (by kernel_rfl) (by kernel_rfl) (fun _ _ _ h => h) (Or.inr (And.intro (by kernel_rfl) rfl)) trivial ?r7_28
      try simp only [Act.put, List.setIfInBounds_toArray, List.set_cons_zero, List.set_cons_succ, List.getElem_toArray, List.getElem_cons_succ, List.getElem_cons_zero]
      refine wpAnyH_take (i := 8) (v := undef) rfl (by kernel_rfl) (by kernel_rfl) (by kernel_rfl) (fun _ _ _ h => h) (Or.inr (And.intro (by kernel_rfl) rfl)) trivial ?r8_29
      try simp only [Act.put, List.setIfInBounds_toArray, List.set_cons_zero, List.set_cons_succ, List.getElem_toArray, List.getElem_cons_succ, List.getElem_cons_zero]
      refine wpAnyH_take (i := 9) (v := undef) rfl (by kernel_rfl) (by kernel_rfl) (by kernel_rfl) (fun _ _ _ h => h) (Or.inr (And.intro (by kernel_rfl) rfl)) trivial ?r9_30
      try simp only [Act.put, List.setIfInBounds_toArray, List.set_cons_zero, List.set_cons_succ, List.getElem_toArray, List.getElem_cons_succ, List.getElem_cons_zero]
      refine wpAnyH_take (i := 10) (v := undef) rfl (by kernel_rfl) (by kernel_rfl) (by kernel_rfl) (fun _ _ _ h => h) (Or.inr (And.intro (by kernel_rfl) rfl)) trivial ?r10_31
      try simp only [Act.put, List.setIfInBounds_toArray, List.set_cons_zero, List.set_cons_succ, List.getElem_toArray, List.getElem_cons_succ, List.getElem_cons_zero]
      refine wpAnyH_take (i := 11) (v := undef) rfl (by kernel_rfl) (by kernel_rfl) (by kernel_rfl) (fun _ _ _ h => h) (Or.inr (And.intro (by kernel_rfl) rfl)) trivial ?r11_32
      try simp only [Act.put, List.setIfInBounds_toArray, List.set_cons_zero, List.set_cons_succ, List.getElem_toArray, List.getElem_cons_succ, List.getElem_cons_zero]
      refine wpAnyH_take (i := 12) (v := undef) rfl (by kernel_rfl) (by kernel_rfl) (by kernel_rfl) (fun _ _ _ h => h) (Or.inr (And.intro (by kernel_rfl) rfl)) trivial ?r12_33
      try simp only [Act.put, List.setIfInBounds_toArray, List.set_cons_zero, List.set_cons_succ, List.getElem_toArray, List.getElem_cons_succ, List.getElem_cons_zero]
      refine wpAnyH_take (i := 13) (v := undef) rfl (by kernel_rfl) (by kernel_rfl) (by kernel_rfl) (fun _ _ _ h => h) (Or.inr (And.intro (by kernel_rfl) rfl)) trivial ?r13_34
      try simp only [Act.put, List.setIfInBounds_toArray, List.set_cons_zero, List.set_cons_succ, List.getElem_toArray, List.getElem_cons_succ, List.getElem_cons_zero]
      refine wpAnyH_take (i := 14) (v := undef) rfl (by kernel_rfl) (by kernel_rfl) (by kernel_rfl) (fun _ _ _ h => h) (Or.inr (And.intro (by kernel_rfl) rfl)) trivial ?r14_35
      try simp only [Act.put, List.setIfInBounds_toArray, List.set_cons_zero, List.set_cons_succ, List.getElem_toArray, List.getElem_cons_succ, List.getElem_cons_zero]
      refine wpAnyH_take (i := 15) (v := ?v15_36) rfl (by kernel_rfl) (by kernel_rfl) (by kernel_rfl) (fun _ _ _ h => h) (Or.inl (And.intro (by kernel_rfl) ?q15_36)) trivial ?r15_36; (case q15_36 => (intro w _; (try dsimp only); (try go_simp); (try with_reducible rfl)))
      try simp only [Act.put, List.setIfInBounds_toArray, List.set_cons_zero, List.set_cons_succ, List.getElem_toArray, List.getElem_cons_succ, List.getElem_cons_zero]
      refine wpAnyH_take (i := 16) (v := ?v16_37) rfl (by kernel_rfl) (by kernel_rfl) (by kernel_rfl) (fun _ _ _ h => h) (Or.inl (And.intro (by kernel_rfl) ?q16_37)) trivial ?r16_37; (case q16_37 => (intro w _; (try dsimp only); (try go_simp); (try with_reducible rfl)))
      try simp only [Act.put, List.setIfInBounds_toArray, List.set_cons_zero, List.set_cons_succ, List.getElem_toArray, List.getElem_cons_succ, List.getElem_cons_zero]
      refine wpAnyH_ready (rs := [17]) (by kernel_rfl) (by simp) ?_
      refine AllReadyH.cons rfl (fun K hK => ?_) AllReadyH.nil
      rw [if_pos (by kernel_rfl)]
      (try simp only [List.getElem_toArray, List.getElem_cons_succ, List.getElem_cons_zero])
      go_simp
      (with_reducible refine (C0.out _ (KK.out.below (by (repeat' (first | with_reducible exact b7 | with_reducible exact Below.refl _ _ | with_reducible refine Below.setCell ?_ (by first | exact Nat.le_refl _ | (dsimp only; omega)) _ | with_reducible refine bstep ?_ (fresh_below _ _) | with_reducible refine Below.drew ?_))))).mono ?_)
      rintro e wJ17 ⟨rfl, bJ17⟩
      replace bJ17 : Below w.heap.size w wJ17 := by (refine bstep ?_ bJ17); (repeat' (first | with_reducible exact b7 | with_reducible exact Below.refl _ _ | with_reducible refine Below.setCell ?_ (by first | exact Nat.le_refl _ | (dsimp only; omega)) _ | with_reducible refine bstep ?_ (fresh_below _ _) | with_reducible refine Below.drew ?_))
      try go_wp2_with fail
      refine hK.out _ _ trivial (fun _ => ?_)
      clear hK K
      try simp only [Act.put, List.setIfInBounds_toArray, List.set_cons_zero, List.set_cons_succ, List.getElem_toArray, List.getElem_cons_succ, List.getElem_cons_zero]
      refine wpAnyH_take (i := 18) (v := ?v18_39) rfl (by kernel_rfl) (by kernel_rfl) (by kernel_rfl) (fun _ _ _ h => h) (Or.inl (And.intro (by kernel_rfl) ?q18_39)) trivial ?r18_39; (case q18_39 => (intro w _; (try dsimp only); (try go_simp); (try with_reducible rfl)))
      try simp only [Act.put, List.setIfInBounds_toArray, List.set_cons_zero, List.set_cons_succ, List.getElem_toArray, List.getElem_cons_succ, List.getElem_cons_zero]
      refine wpAnyH_take (i := 19) (v := ?v19_40) rfl (by kernel_rfl) (by kernel_rfl) (by kernel_rfl) (fun _ _ _ h => h) (Or.inl (And.intro (by kernel_rfl) ?q19_40)) trivial ?r19_40; (case q19_40 => (intro w _; (try dsimp only); (try go_simp); (try with_reducible rfl)))
      try simp only [Act.put, List.setIfInBounds_toArray, List.set_cons_zero, List.set_cons_succ, List.getElem_toArray, List.getElem_cons_succ, List.getElem_cons_zero]
      refine wpAnyH_done (by kernel_rfl) ?_ _
      go_wp2
      go_ret
      exact ⟨rfl, (by (repeat' (first | with_reducible exact bJ17 | with_reducible exact Below.refl _ _ | with_reducible refine Below.setCell ?_ (by first | exact Nat.le_refl _ | (dsimp only; omega)) _ | with_reducible refine bstep ?_ (fresh_below _ _) | with_reducible refine Below.drew ?_)))⟩
end Go.Proofs.YthmedjlecikbiaaDoor
