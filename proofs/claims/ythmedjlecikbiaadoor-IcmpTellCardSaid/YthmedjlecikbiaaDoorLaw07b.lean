/- IcmpTell walked: it returns true and leaves what lay there as it lay. -/
import Derived.Test.YthmedjlecikbiaaDoorLaw07
set_option linter.unusedVariables false
namespace Go.Proofs.YthmedjlecikbiaaDoor
open Go.RowKit Go.Maps
attribute [local go_sem] Oper.semAt_some

theorem both_Parse (s : ByteArray) (hs : s.size ≤ 140737488351232) : ∃ t c n : Int, ∃ r d : ByteArray, ∃ v : Bool,
    (∀ w, Calls Tryd.prog 13 #[.string s] w (Ret (.tuple #[.agg #[.int .u8 t, .int .u8 c, .int .u16 n, .string r, .string d], .bool v]) w)) ∧
    (∀ w, Calls Tryd.prog 14 #[.string s] w (Ret (.tuple #[.agg #[.int .u8 t, .int .u8 c, .int .u16 n, .string r, .string d], .bool v]) w)) := by
  by_cases h : s.size < 8
  · exact ⟨0, 0, 0, { data := #[] }, { data := #[] }, false, fun w => i_Parse_no s w h, fun w => r7_Parse_no s w h⟩
  · exact ⟨_, _, _, _, _, true, fun w => i_Parse_yes s w hs (by omega), fun w => r7_Parse_yes s w hs (by omega)⟩
theorem both_Put (m : Msg) (ho : m.Ok) : ∃ t : ByteArray, ∃ e : Int,
    (∀ w, Calls Tryd.prog 15 #[.agg #[.int .u8 m.t, .int .u8 m.c, .int .u16 m.n, .string m.r, .string m.d]] w (Ret (.tuple #[.string t, .int .i64 e]) w)) ∧
    (∀ w, Calls Tryd.prog 16 #[.agg #[.int .u8 m.t, .int .u8 m.c, .int .u16 m.n, .string m.r, .string m.d]] w (Ret (.tuple #[.string t, .int .i64 e]) w)) := by
  by_cases h : m.r.size = 4
  · exact ⟨_, _, fun w => i_Put_yes m w ho h, fun w => r7_Put_yes m w ho h⟩
  · exact ⟨_, _, fun w => i_Put_no m w h, fun w => r7_Put_no m w h⟩

set_option maxRecDepth 100000 in
set_option maxHeartbeats 8000000 in
theorem IcmpTell_core (s : ByteArray) (m : Msg) (id : Int) (w : World) (K0 : Kinds w) (hs : s.size ≤ 140737488351232) (ho : m.Ok) (hi : 0 ≤ id ∧ id ≤ 65535) :
    Calls Tryd.prog 5 #[.string s, .agg #[.int .u8 m.t, .int .u8 m.c, .int .u16 m.n, .string m.r, .string m.d], .int .u16 id] w (Ret (.bool true) w) := by
  have c0 := fun w k => echoed w k
  have KK := hide K0; have C0 := hide c0
  clear K0 c0
  obtain ⟨a1, a2, a3, a4, a5, v, p1, p2⟩ := both_Parse s hs
  obtain ⟨u, e, q1, q2⟩ := both_Put m ho
  have q3 := fun w k => i_Query m w ho k
  have q4 := fun w => r7_Query m w
  have q5 := fun w k => i_Error m w ho k
  have q6 := fun w => r7_Error m w
  have q7 := fun w => i_ID m w ho
  have q8 := fun w => r7_ID m w ho
  have q9 := fun w => i_WithID m id w ho hi
  have q10 := fun w => r7_WithID m id w ho hi
  generalize qAsk m = x1 at q3 q4
  generalize qIs m = x2 at q3 q4
  generalize qErr m = x3 at q5 q6
  generalize get16 (L m.r) 0 = x4 at q7 q8
  generalize msgID m id = k at q9 q10
  obtain ⟨k1, k2, k3, k4, k5⟩ := k
  have hr := ho.2.2.2.1
  have hd := ho.2.2.2.2
  obtain ⟨t, c, n, r, d⟩ := m
  simp only at q1 q2 q3 q4 q5 q6 q7 q8 q9 q10 hr hd ⊢
  have y1 : (v == v) = true := by simp
  have y2 : (e == e) = true := by simp
  have y3 : (x1 == x1) = true := by simp
  have y4 : (x2 == x2) = true := by simp
  have y5 : (x3 == x3) = true := by simp
  have y6 : (x4 == x4) = true := by simp
  have P1 := hide p1; have P2 := hide p2; have Q1 := hide q1; have Q2 := hide q2; have Q3 := hide q3; have Q4 := hide q4; have Q5 := hide q5; have Q6 := hide q6; have Q7 := hide q7; have Q8 := hide q8; have Q9 := hide q9; have Q10 := hide q10
  clear p1 p2 q1 q2 q3 q4 q5 q6 q7 q8 q9 q10 ho hi
  by_cases g1 : 600 < s.size
  · go_enter Tryd.func5, Tryd.ntmps5
    go_wp2_with fail
    (with_reducible refine (C0.out _ (KK.out.below (by (repeat' (first | with_reducible exact Below.refl _ _ | with_reducible refine Below.setCell ?_ (by first | exact Nat.le_refl _ | (dsimp only; omega)) _ | with_reducible refine bstep ?_ (fresh_below _ _) | with_reducible refine Below.drew ?_))))).mono ?_)
    rintro e w1 ⟨rfl, b1⟩
    replace b1 : Below w.heap.size w w1 := by (refine bstep ?_ b1); (repeat' (first | with_reducible exact Below.refl _ _ | with_reducible refine Below.setCell ?_ (by first | exact Nat.le_refl _ | (dsimp only; omega)) _ | with_reducible refine bstep ?_ (fresh_below _ _) | with_reducible refine Below.drew ?_))
    have z1 : w.heap.size ≤ w1.heap.size := b1.size
    go_wp2_with fail
    go_ret
    exact ⟨rfl, (by (repeat' (first | with_reducible exact b1 | with_reducible exact Below.refl _ _ | with_reducible refine Below.setCell ?_ (by first | exact Nat.le_refl _ | (dsimp only; omega)) _ | with_reducible refine bstep ?_ (fresh_below _ _) | with_reducible refine Below.drew ?_)))⟩
  by_cases g2 : 600 < r.size
  · go_enter Tryd.func5, Tryd.ntmps5
    go_wp2_with fail
    (with_reducible refine (C0.out _ (KK.out.below (by (repeat' (first | with_reducible exact Below.refl _ _ | with_reducible refine Below.setCell ?_ (by first | exact Nat.le_refl _ | (dsimp only; omega)) _ | with_reducible refine bstep ?_ (fresh_below _ _) | with_reducible refine Below.drew ?_))))).mono ?_)
    rintro e w1 ⟨rfl, b1⟩
    replace b1 : Below w.heap.size w w1 := by (refine bstep ?_ b1); (repeat' (first | with_reducible exact Below.refl _ _ | with_reducible refine Below.setCell ?_ (by first | exact Nat.le_refl _ | (dsimp only; omega)) _ | with_reducible refine bstep ?_ (fresh_below _ _) | with_reducible refine Below.drew ?_))
    have z1 : w.heap.size ≤ w1.heap.size := b1.size
    go_wp2_with fail
    go_ret
    exact ⟨rfl, (by (repeat' (first | with_reducible exact b1 | with_reducible exact Below.refl _ _ | with_reducible refine Below.setCell ?_ (by first | exact Nat.le_refl _ | (dsimp only; omega)) _ | with_reducible refine bstep ?_ (fresh_below _ _) | with_reducible refine Below.drew ?_)))⟩
  by_cases g3 : 600 < d.size
  · go_enter Tryd.func5, Tryd.ntmps5
    go_wp2_with fail
    (with_reducible refine (C0.out _ (KK.out.below (by (repeat' (first | with_reducible exact Below.refl _ _ | with_reducible refine Below.setCell ?_ (by first | exact Nat.le_refl _ | (dsimp only; omega)) _ | with_reducible refine bstep ?_ (fresh_below _ _) | with_reducible refine Below.drew ?_))))).mono ?_)
    rintro e w1 ⟨rfl, b1⟩
    replace b1 : Below w.heap.size w w1 := by (refine bstep ?_ b1); (repeat' (first | with_reducible exact Below.refl _ _ | with_reducible refine Below.setCell ?_ (by first | exact Nat.le_refl _ | (dsimp only; omega)) _ | with_reducible refine bstep ?_ (fresh_below _ _) | with_reducible refine Below.drew ?_))
    have z1 : w.heap.size ≤ w1.heap.size := b1.size
    go_wp2_with fail
    go_ret
    exact ⟨rfl, (by (repeat' (first | with_reducible exact b1 | with_reducible exact Below.refl _ _ | with_reducible refine Below.setCell ?_ (by first | exact Nat.le_refl _ | (dsimp only; omega)) _ | with_reducible refine bstep ?_ (fresh_below _ _) | with_reducible refine Below.drew ?_)))⟩
  go_enter Tryd.func5, Tryd.ntmps5
  have d0 := Cells.new w #[.int .u8 t, .int .u8 c, .int .u16 n, .string r, .string d] 29
  go_wp2_with fail
  (with_reducible refine (P1.out _).mono ?_)
  rintro e w1 ⟨rfl, b1⟩
  replace d0 := Cells.up d0 (by (repeat' (first | with_reducible exact Below.refl _ _ | with_reducible refine bstep ?_ (fresh_below _ _) | with_reducible refine Below.drew ?_))) b1
  replace b1 : Below w.heap.size w w1 := by (refine bstep ?_ b1); (repeat' (first | with_reducible exact Below.refl _ _ | with_reducible refine Below.setCell ?_ (by first | exact Nat.le_refl _ | (dsimp only; omega)) _ | with_reducible refine bstep ?_ (fresh_below _ _) | with_reducible refine Below.drew ?_))
  have z1 : w.heap.size ≤ w1.heap.size := b1.size
  replace d0 := Cells.below (fresh_below w1 (.cells #[.int .u8 a1, .int .u8 a2, .int .u16 a3, .string a4, .string a5] 29)) d0
  have d1 := Cells.new w1 #[.int .u8 a1, .int .u8 a2, .int .u16 a3, .string a4, .string a5] 29
  go_wp2_with fail
  (with_reducible refine (P2.out _).mono ?_)
  rintro e w2 ⟨rfl, b2⟩
  replace d0 := Cells.up d0 (by (repeat' (first | with_reducible exact Below.refl _ _ | with_reducible refine bstep ?_ (fresh_below _ _) | with_reducible refine Below.drew ?_))) b2
  replace d1 := Cells.up d1 (by (repeat' (first | with_reducible exact Below.refl _ _ | with_reducible refine bstep ?_ (fresh_below _ _) | with_reducible refine Below.drew ?_))) b2
  replace b2 : Below w.heap.size w w2 := by (refine bstep ?_ b2); (repeat' (first | with_reducible exact b1 | with_reducible exact Below.refl _ _ | with_reducible refine Below.setCell ?_ (by first | exact Nat.le_refl _ | (dsimp only; omega)) _ | with_reducible refine bstep ?_ (fresh_below _ _) | with_reducible refine Below.drew ?_))
  have z2 : w.heap.size ≤ w2.heap.size := b2.size
  replace d0 := Cells.below (fresh_below w2 (.cells #[.int .u8 a1, .int .u8 a2, .int .u16 a3, .string a4, .string a5] 32)) d0
  replace d1 := Cells.below (fresh_below w2 (.cells #[.int .u8 a1, .int .u8 a2, .int .u16 a3, .string a4, .string a5] 32)) d1
  have d2 := Cells.new w2 #[.int .u8 a1, .int .u8 a2, .int .u16 a3, .string a4, .string a5] 32
  have dy := d0
  have xdy_0 : (w2.alloc (.cells #[.int .u8 a1, .int .u8 a2, .int .u16 a3, .string a4, .string a5] 32)).cell? ⟨w.heap.size, 0, none⟩ = some (.int .u8 t) := dy.at_ 0
  have xdy_1 : (w2.alloc (.cells #[.int .u8 a1, .int .u8 a2, .int .u16 a3, .string a4, .string a5] 32)).cell? ⟨w.heap.size, 1, none⟩ = some (.int .u8 c) := dy.at_ 1
  have xdy_2 : (w2.alloc (.cells #[.int .u8 a1, .int .u8 a2, .int .u16 a3, .string a4, .string a5] 32)).cell? ⟨w.heap.size, 2, none⟩ = some (.int .u16 n) := dy.at_ 2
  have xdy_3 : (w2.alloc (.cells #[.int .u8 a1, .int .u8 a2, .int .u16 a3, .string a4, .string a5] 32)).cell? ⟨w.heap.size, 3, none⟩ = some (.string r) := dy.at_ 3
  have xdy_4 : (w2.alloc (.cells #[.int .u8 a1, .int .u8 a2, .int .u16 a3, .string a4, .string a5] 32)).cell? ⟨w.heap.size, 4, none⟩ = some (.string d) := dy.at_ 4
  have dz := Cells.alloc d0 (.cells #[.int .u8 0, .int .u8 0, .int .u16 0, .string { data := #[] }, .string { data := #[] }] 32)
  have xdz_0 : ((w2.alloc (.cells #[.int .u8 a1, .int .u8 a2, .int .u16 a3, .string a4, .string a5] 32)).alloc (.cells #[.int .u8 0, .int .u8 0, .int .u16 0, .string { data := #[] }, .string { data := #[] }] 32)).cell? ⟨w.heap.size, 0, none⟩ = some (.int .u8 t) := dz.at_ 0
  have xdz_1 : ((w2.alloc (.cells #[.int .u8 a1, .int .u8 a2, .int .u16 a3, .string a4, .string a5] 32)).alloc (.cells #[.int .u8 0, .int .u8 0, .int .u16 0, .string { data := #[] }, .string { data := #[] }] 32)).cell? ⟨w.heap.size, 1, none⟩ = some (.int .u8 c) := dz.at_ 1
  have xdz_2 : ((w2.alloc (.cells #[.int .u8 a1, .int .u8 a2, .int .u16 a3, .string a4, .string a5] 32)).alloc (.cells #[.int .u8 0, .int .u8 0, .int .u16 0, .string { data := #[] }, .string { data := #[] }] 32)).cell? ⟨w.heap.size, 2, none⟩ = some (.int .u16 n) := dz.at_ 2
  have xdz_3 : ((w2.alloc (.cells #[.int .u8 a1, .int .u8 a2, .int .u16 a3, .string a4, .string a5] 32)).alloc (.cells #[.int .u8 0, .int .u8 0, .int .u16 0, .string { data := #[] }, .string { data := #[] }] 32)).cell? ⟨w.heap.size, 3, none⟩ = some (.string r) := dz.at_ 3
  have xdz_4 : ((w2.alloc (.cells #[.int .u8 a1, .int .u8 a2, .int .u16 a3, .string a4, .string a5] 32)).alloc (.cells #[.int .u8 0, .int .u8 0, .int .u16 0, .string { data := #[] }, .string { data := #[] }] 32)).cell? ⟨w.heap.size, 4, none⟩ = some (.string d) := dz.at_ 4
  replace d0 := Cells.below (fresh_below (w2.alloc (.cells #[.int .u8 a1, .int .u8 a2, .int .u16 a3, .string a4, .string a5] 32)) (.cells #[.int .u8 t, .int .u8 c, .int .u16 n, .string r, .string d] 32)) d0
  replace d1 := Cells.below (fresh_below (w2.alloc (.cells #[.int .u8 a1, .int .u8 a2, .int .u16 a3, .string a4, .string a5] 32)) (.cells #[.int .u8 t, .int .u8 c, .int .u16 n, .string r, .string d] 32)) d1
  replace d2 := Cells.below (fresh_below (w2.alloc (.cells #[.int .u8 a1, .int .u8 a2, .int .u16 a3, .string a4, .string a5] 32)) (.cells #[.int .u8 t, .int .u8 c, .int .u16 n, .string r, .string d] 32)) d2
  have d3 := Cells.new (w2.alloc (.cells #[.int .u8 a1, .int .u8 a2, .int .u16 a3, .string a4, .string a5] 32)) #[.int .u8 t, .int .u8 c, .int .u16 n, .string r, .string d] 32
  rw [World.size_alloc] at d3
  have dm := d0
  have xdm_0 : ((w2.alloc (.cells #[.int .u8 a1, .int .u8 a2, .int .u16 a3, .string a4, .string a5] 32)).alloc (.cells #[.int .u8 t, .int .u8 c, .int .u16 n, .string r, .string d] 32)).cell? ⟨w.heap.size, 0, none⟩ = some (.int .u8 t) := dm.at_ 0
  have xdm_1 : ((w2.alloc (.cells #[.int .u8 a1, .int .u8 a2, .int .u16 a3, .string a4, .string a5] 32)).alloc (.cells #[.int .u8 t, .int .u8 c, .int .u16 n, .string r, .string d] 32)).cell? ⟨w.heap.size, 1, none⟩ = some (.int .u8 c) := dm.at_ 1
  have xdm_2 : ((w2.alloc (.cells #[.int .u8 a1, .int .u8 a2, .int .u16 a3, .string a4, .string a5] 32)).alloc (.cells #[.int .u8 t, .int .u8 c, .int .u16 n, .string r, .string d] 32)).cell? ⟨w.heap.size, 2, none⟩ = some (.int .u16 n) := dm.at_ 2
  have xdm_3 : ((w2.alloc (.cells #[.int .u8 a1, .int .u8 a2, .int .u16 a3, .string a4, .string a5] 32)).alloc (.cells #[.int .u8 t, .int .u8 c, .int .u16 n, .string r, .string d] 32)).cell? ⟨w.heap.size, 3, none⟩ = some (.string r) := dm.at_ 3
  have xdm_4 : ((w2.alloc (.cells #[.int .u8 a1, .int .u8 a2, .int .u16 a3, .string a4, .string a5] 32)).alloc (.cells #[.int .u8 t, .int .u8 c, .int .u16 n, .string r, .string d] 32)).cell? ⟨w.heap.size, 4, none⟩ = some (.string d) := dm.at_ 4
  go_wp2_with fail
  (with_reducible refine (Q1.out _).mono ?_)
  rintro e w3 ⟨rfl, b3⟩
  replace d0 := Cells.up d0 (by (repeat' (first | with_reducible exact Below.refl _ _ | with_reducible refine bstep ?_ (fresh_below _ _) | with_reducible refine Below.drew ?_))) b3
  replace d1 := Cells.up d1 (by (repeat' (first | with_reducible exact Below.refl _ _ | with_reducible refine bstep ?_ (fresh_below _ _) | with_reducible refine Below.drew ?_))) b3
  replace d2 := Cells.up d2 (by (repeat' (first | with_reducible exact Below.refl _ _ | with_reducible refine bstep ?_ (fresh_below _ _) | with_reducible refine Below.drew ?_))) b3
  replace d3 := Cells.up d3 (by (repeat' (first | with_reducible exact Below.refl _ _ | with_reducible refine bstep ?_ (fresh_below _ _) | with_reducible refine Below.drew ?_))) b3
  replace b3 : Below w.heap.size w w3 := by (refine bstep ?_ b3); (repeat' (first | with_reducible exact b2 | with_reducible exact Below.refl _ _ | with_reducible refine Below.setCell ?_ (by first | exact Nat.le_refl _ | (dsimp only; omega)) _ | with_reducible refine bstep ?_ (fresh_below _ _) | with_reducible refine Below.drew ?_))
  have z3 : w.heap.size ≤ w3.heap.size := b3.size
  have xd3_0 : w3.cell? ⟨w2.heap.size + 1, 0, none⟩ = some (.int .u8 t) := d3.at_ 0
  have xd3_1 : w3.cell? ⟨w2.heap.size + 1, 1, none⟩ = some (.int .u8 c) := d3.at_ 1
  have xd3_2 : w3.cell? ⟨w2.heap.size + 1, 2, none⟩ = some (.int .u16 n) := d3.at_ 2
  have xd3_3 : w3.cell? ⟨w2.heap.size + 1, 3, none⟩ = some (.string r) := d3.at_ 3
  have xd3_4 : w3.cell? ⟨w2.heap.size + 1, 4, none⟩ = some (.string d) := d3.at_ 4
  go_wp2_with fail
  (with_reducible refine (Q2.out _).mono ?_)
  rintro e w4 ⟨rfl, b4⟩
  replace d0 := Cells.up d0 (by (repeat' (first | with_reducible exact Below.refl _ _ | with_reducible refine bstep ?_ (fresh_below _ _) | with_reducible refine Below.drew ?_))) b4
  replace d1 := Cells.up d1 (by (repeat' (first | with_reducible exact Below.refl _ _ | with_reducible refine bstep ?_ (fresh_below _ _) | with_reducible refine Below.drew ?_))) b4
  replace d2 := Cells.up d2 (by (repeat' (first | with_reducible exact Below.refl _ _ | with_reducible refine bstep ?_ (fresh_below _ _) | with_reducible refine Below.drew ?_))) b4
  replace d3 := Cells.up d3 (by (repeat' (first | with_reducible exact Below.refl _ _ | with_reducible refine bstep ?_ (fresh_below _ _) | with_reducible refine Below.drew ?_))) b4
  replace b4 : Below w.heap.size w w4 := by (refine bstep ?_ b4); (repeat' (first | with_reducible exact b3 | with_reducible exact Below.refl _ _ | with_reducible refine Below.setCell ?_ (by first | exact Nat.le_refl _ | (dsimp only; omega)) _ | with_reducible refine bstep ?_ (fresh_below _ _) | with_reducible refine Below.drew ?_))
  have z4 : w.heap.size ≤ w4.heap.size := b4.size
  have xd0_0 : w4.cell? ⟨w.heap.size, 0, none⟩ = some (.int .u8 t) := d0.at_ 0
  have xd0_1 : w4.cell? ⟨w.heap.size, 1, none⟩ = some (.int .u8 c) := d0.at_ 1
  have xd0_2 : w4.cell? ⟨w.heap.size, 2, none⟩ = some (.int .u16 n) := d0.at_ 2
  have xd0_3 : w4.cell? ⟨w.heap.size, 3, none⟩ = some (.string r) := d0.at_ 3
  have xd0_4 : w4.cell? ⟨w.heap.size, 4, none⟩ = some (.string d) := d0.at_ 4
  go_wp2_with fail
  (with_reducible refine (Q3.out _ (KK.out.below (by (repeat' (first | with_reducible exact b4 | with_reducible exact Below.refl _ _ | with_reducible refine Below.setCell ?_ (by first | exact Nat.le_refl _ | (dsimp only; omega)) _ | with_reducible refine bstep ?_ (fresh_below _ _) | with_reducible refine Below.drew ?_))))).mono ?_)
  rintro e w5 ⟨rfl, b5⟩
  replace d0 := Cells.up d0 (by (repeat' (first | with_reducible exact Below.refl _ _ | with_reducible refine bstep ?_ (fresh_below _ _) | with_reducible refine Below.drew ?_))) b5
  replace d1 := Cells.up d1 (by (repeat' (first | with_reducible exact Below.refl _ _ | with_reducible refine bstep ?_ (fresh_below _ _) | with_reducible refine Below.drew ?_))) b5
  replace d2 := Cells.up d2 (by (repeat' (first | with_reducible exact Below.refl _ _ | with_reducible refine bstep ?_ (fresh_below _ _) | with_reducible refine Below.drew ?_))) b5
  replace d3 := Cells.up d3 (by (repeat' (first | with_reducible exact Below.refl _ _ | with_reducible refine bstep ?_ (fresh_below _ _) | with_reducible refine Below.drew ?_))) b5
  replace b5 : Below w.heap.size w w5 := by (refine bstep ?_ b5); (repeat' (first | with_reducible exact b4 | with_reducible exact Below.refl _ _ | with_reducible refine Below.setCell ?_ (by first | exact Nat.le_refl _ | (dsimp only; omega)) _ | with_reducible refine bstep ?_ (fresh_below _ _) | with_reducible refine Below.drew ?_))
  have z5 : w.heap.size ≤ w5.heap.size := b5.size
  have xd3_0 : w5.cell? ⟨w2.heap.size + 1, 0, none⟩ = some (.int .u8 t) := d3.at_ 0
  have xd3_1 : w5.cell? ⟨w2.heap.size + 1, 1, none⟩ = some (.int .u8 c) := d3.at_ 1
  have xd3_2 : w5.cell? ⟨w2.heap.size + 1, 2, none⟩ = some (.int .u16 n) := d3.at_ 2
  have xd3_3 : w5.cell? ⟨w2.heap.size + 1, 3, none⟩ = some (.string r) := d3.at_ 3
  have xd3_4 : w5.cell? ⟨w2.heap.size + 1, 4, none⟩ = some (.string d) := d3.at_ 4
  go_wp2_with fail
  (with_reducible refine (Q4.out _).mono ?_)
  rintro e w6 ⟨rfl, b6⟩
  replace d0 := Cells.up d0 (by (repeat' (first | with_reducible exact Below.refl _ _ | with_reducible refine bstep ?_ (fresh_below _ _) | with_reducible refine Below.drew ?_))) b6
  replace d1 := Cells.up d1 (by (repeat' (first | with_reducible exact Below.refl _ _ | with_reducible refine bstep ?_ (fresh_below _ _) | with_reducible refine Below.drew ?_))) b6
  replace d2 := Cells.up d2 (by (repeat' (first | with_reducible exact Below.refl _ _ | with_reducible refine bstep ?_ (fresh_below _ _) | with_reducible refine Below.drew ?_))) b6
  replace d3 := Cells.up d3 (by (repeat' (first | with_reducible exact Below.refl _ _ | with_reducible refine bstep ?_ (fresh_below _ _) | with_reducible refine Below.drew ?_))) b6
  replace b6 : Below w.heap.size w w6 := by (refine bstep ?_ b6); (repeat' (first | with_reducible exact b5 | with_reducible exact Below.refl _ _ | with_reducible refine Below.setCell ?_ (by first | exact Nat.le_refl _ | (dsimp only; omega)) _ | with_reducible refine bstep ?_ (fresh_below _ _) | with_reducible refine Below.drew ?_))
  have z6 : w.heap.size ≤ w6.heap.size := b6.size
  go_wp2_with fail
  have SK := hide (fun (zX zY : World) (zh : (Below w.heap.size w zX ∧ zX.cell? ⟨w.heap.size, 0, none⟩ = some (.int .u8 t) ∧ zX.cell? ⟨w.heap.size, 1, none⟩ = some (.int .u8 c) ∧ zX.cell? ⟨w.heap.size, 2, none⟩ = some (.int .u16 n) ∧ zX.cell? ⟨w.heap.size, 3, none⟩ = some (.string r) ∧ zX.cell? ⟨w.heap.size, 4, none⟩ = some (.string d) ∧ zX.cell? ⟨w1.heap.size, 0, none⟩ = some (.int .u8 a1) ∧ zX.cell? ⟨w1.heap.size, 1, none⟩ = some (.int .u8 a2) ∧ zX.cell? ⟨w1.heap.size, 2, none⟩ = some (.int .u16 a3) ∧ zX.cell? ⟨w1.heap.size, 3, none⟩ = some (.string a4) ∧ zX.cell? ⟨w1.heap.size, 4, none⟩ = some (.string a5) ∧ zX.cell? ⟨w2.heap.size, 0, none⟩ = some (.int .u8 a1) ∧ zX.cell? ⟨w2.heap.size, 1, none⟩ = some (.int .u8 a2) ∧ zX.cell? ⟨w2.heap.size, 2, none⟩ = some (.int .u16 a3) ∧ zX.cell? ⟨w2.heap.size, 3, none⟩ = some (.string a4) ∧ zX.cell? ⟨w2.heap.size, 4, none⟩ = some (.string a5) ∧ zX.cell? ⟨w2.heap.size + 1, 0, none⟩ = some (.int .u8 t) ∧ zX.cell? ⟨w2.heap.size + 1, 1, none⟩ = some (.int .u8 c) ∧ zX.cell? ⟨w2.heap.size + 1, 2, none⟩ = some (.int .u16 n) ∧ zX.cell? ⟨w2.heap.size + 1, 3, none⟩ = some (.string r) ∧ zX.cell? ⟨w2.heap.size + 1, 4, none⟩ = some (.string d) ∧ True)) (zb : Below zX.heap.size zX zY) => (show (Below w.heap.size w zY ∧ zY.cell? ⟨w.heap.size, 0, none⟩ = some (.int .u8 t) ∧ zY.cell? ⟨w.heap.size, 1, none⟩ = some (.int .u8 c) ∧ zY.cell? ⟨w.heap.size, 2, none⟩ = some (.int .u16 n) ∧ zY.cell? ⟨w.heap.size, 3, none⟩ = some (.string r) ∧ zY.cell? ⟨w.heap.size, 4, none⟩ = some (.string d) ∧ zY.cell? ⟨w1.heap.size, 0, none⟩ = some (.int .u8 a1) ∧ zY.cell? ⟨w1.heap.size, 1, none⟩ = some (.int .u8 a2) ∧ zY.cell? ⟨w1.heap.size, 2, none⟩ = some (.int .u16 a3) ∧ zY.cell? ⟨w1.heap.size, 3, none⟩ = some (.string a4) ∧ zY.cell? ⟨w1.heap.size, 4, none⟩ = some (.string a5) ∧ zY.cell? ⟨w2.heap.size, 0, none⟩ = some (.int .u8 a1) ∧ zY.cell? ⟨w2.heap.size, 1, none⟩ = some (.int .u8 a2) ∧ zY.cell? ⟨w2.heap.size, 2, none⟩ = some (.int .u16 a3) ∧ zY.cell? ⟨w2.heap.size, 3, none⟩ = some (.string a4) ∧ zY.cell? ⟨w2.heap.size, 4, none⟩ = some (.string a5) ∧ zY.cell? ⟨w2.heap.size + 1, 0, none⟩ = some (.int .u8 t) ∧ zY.cell? ⟨w2.heap.size + 1, 1, none⟩ = some (.int .u8 c) ∧ zY.cell? ⟨w2.heap.size + 1, 2, none⟩ = some (.int .u16 n) ∧ zY.cell? ⟨w2.heap.size + 1, 3, none⟩ = some (.string r) ∧ zY.cell? ⟨w2.heap.size + 1, 4, none⟩ = some (.string d) ∧ True) from ⟨bstep zh.1 zb, cellAt zb zh.2.1, cellAt zb zh.2.2.1, cellAt zb zh.2.2.2.1, cellAt zb zh.2.2.2.2.1, cellAt zb zh.2.2.2.2.2.1, cellAt zb zh.2.2.2.2.2.2.1, cellAt zb zh.2.2.2.2.2.2.2.1, cellAt zb zh.2.2.2.2.2.2.2.2.1, cellAt zb zh.2.2.2.2.2.2.2.2.2.1, cellAt zb zh.2.2.2.2.2.2.2.2.2.2.1, cellAt zb zh.2.2.2.2.2.2.2.2.2.2.2.1, cellAt zb zh.2.2.2.2.2.2.2.2.2.2.2.2.1, cellAt zb zh.2.2.2.2.2.2.2.2.2.2.2.2.2.1, cellAt zb zh.2.2.2.2.2.2.2.2.2.2.2.2.2.2.1, cellAt zb zh.2.2.2.2.2.2.2.2.2.2.2.2.2.2.2.1, cellAt zb zh.2.2.2.2.2.2.2.2.2.2.2.2.2.2.2.2.1, cellAt zb zh.2.2.2.2.2.2.2.2.2.2.2.2.2.2.2.2.2.1, cellAt zb zh.2.2.2.2.2.2.2.2.2.2.2.2.2.2.2.2.2.2.1, cellAt zb zh.2.2.2.2.2.2.2.2.2.2.2.2.2.2.2.2.2.2.2.1, cellAt zb zh.2.2.2.2.2.2.2.2.2.2.2.2.2.2.2.2.2.2.2.2.1, trivial⟩))
  have FS := hide (fun (zX : World) (zh : (Below w.heap.size w zX ∧ zX.cell? ⟨w.heap.size, 0, none⟩ = some (.int .u8 t) ∧ zX.cell? ⟨w.heap.size, 1, none⟩ = some (.int .u8 c) ∧ zX.cell? ⟨w.heap.size, 2, none⟩ = some (.int .u16 n) ∧ zX.cell? ⟨w.heap.size, 3, none⟩ = some (.string r) ∧ zX.cell? ⟨w.heap.size, 4, none⟩ = some (.string d) ∧ zX.cell? ⟨w1.heap.size, 0, none⟩ = some (.int .u8 a1) ∧ zX.cell? ⟨w1.heap.size, 1, none⟩ = some (.int .u8 a2) ∧ zX.cell? ⟨w1.heap.size, 2, none⟩ = some (.int .u16 a3) ∧ zX.cell? ⟨w1.heap.size, 3, none⟩ = some (.string a4) ∧ zX.cell? ⟨w1.heap.size, 4, none⟩ = some (.string a5) ∧ zX.cell? ⟨w2.heap.size, 0, none⟩ = some (.int .u8 a1) ∧ zX.cell? ⟨w2.heap.size, 1, none⟩ = some (.int .u8 a2) ∧ zX.cell? ⟨w2.heap.size, 2, none⟩ = some (.int .u16 a3) ∧ zX.cell? ⟨w2.heap.size, 3, none⟩ = some (.string a4) ∧ zX.cell? ⟨w2.heap.size, 4, none⟩ = some (.string a5) ∧ zX.cell? ⟨w2.heap.size + 1, 0, none⟩ = some (.int .u8 t) ∧ zX.cell? ⟨w2.heap.size + 1, 1, none⟩ = some (.int .u8 c) ∧ zX.cell? ⟨w2.heap.size + 1, 2, none⟩ = some (.int .u16 n) ∧ zX.cell? ⟨w2.heap.size + 1, 3, none⟩ = some (.string r) ∧ zX.cell? ⟨w2.heap.size + 1, 4, none⟩ = some (.string d) ∧ True)) => zh.1)
  have GS := hide (fun (zX : World) (zh : (Below w.heap.size w zX ∧ zX.cell? ⟨w.heap.size, 0, none⟩ = some (.int .u8 t) ∧ zX.cell? ⟨w.heap.size, 1, none⟩ = some (.int .u8 c) ∧ zX.cell? ⟨w.heap.size, 2, none⟩ = some (.int .u16 n) ∧ zX.cell? ⟨w.heap.size, 3, none⟩ = some (.string r) ∧ zX.cell? ⟨w.heap.size, 4, none⟩ = some (.string d) ∧ zX.cell? ⟨w1.heap.size, 0, none⟩ = some (.int .u8 a1) ∧ zX.cell? ⟨w1.heap.size, 1, none⟩ = some (.int .u8 a2) ∧ zX.cell? ⟨w1.heap.size, 2, none⟩ = some (.int .u16 a3) ∧ zX.cell? ⟨w1.heap.size, 3, none⟩ = some (.string a4) ∧ zX.cell? ⟨w1.heap.size, 4, none⟩ = some (.string a5) ∧ zX.cell? ⟨w2.heap.size, 0, none⟩ = some (.int .u8 a1) ∧ zX.cell? ⟨w2.heap.size, 1, none⟩ = some (.int .u8 a2) ∧ zX.cell? ⟨w2.heap.size, 2, none⟩ = some (.int .u16 a3) ∧ zX.cell? ⟨w2.heap.size, 3, none⟩ = some (.string a4) ∧ zX.cell? ⟨w2.heap.size, 4, none⟩ = some (.string a5) ∧ zX.cell? ⟨w2.heap.size + 1, 0, none⟩ = some (.int .u8 t) ∧ zX.cell? ⟨w2.heap.size + 1, 1, none⟩ = some (.int .u8 c) ∧ zX.cell? ⟨w2.heap.size + 1, 2, none⟩ = some (.int .u16 n) ∧ zX.cell? ⟨w2.heap.size + 1, 3, none⟩ = some (.string r) ∧ zX.cell? ⟨w2.heap.size + 1, 4, none⟩ = some (.string d) ∧ True)) => zh)
  have hS0 : (Below w.heap.size w w6 ∧ w6.cell? ⟨w.heap.size, 0, none⟩ = some (.int .u8 t) ∧ w6.cell? ⟨w.heap.size, 1, none⟩ = some (.int .u8 c) ∧ w6.cell? ⟨w.heap.size, 2, none⟩ = some (.int .u16 n) ∧ w6.cell? ⟨w.heap.size, 3, none⟩ = some (.string r) ∧ w6.cell? ⟨w.heap.size, 4, none⟩ = some (.string d) ∧ w6.cell? ⟨w1.heap.size, 0, none⟩ = some (.int .u8 a1) ∧ w6.cell? ⟨w1.heap.size, 1, none⟩ = some (.int .u8 a2) ∧ w6.cell? ⟨w1.heap.size, 2, none⟩ = some (.int .u16 a3) ∧ w6.cell? ⟨w1.heap.size, 3, none⟩ = some (.string a4) ∧ w6.cell? ⟨w1.heap.size, 4, none⟩ = some (.string a5) ∧ w6.cell? ⟨w2.heap.size, 0, none⟩ = some (.int .u8 a1) ∧ w6.cell? ⟨w2.heap.size, 1, none⟩ = some (.int .u8 a2) ∧ w6.cell? ⟨w2.heap.size, 2, none⟩ = some (.int .u16 a3) ∧ w6.cell? ⟨w2.heap.size, 3, none⟩ = some (.string a4) ∧ w6.cell? ⟨w2.heap.size, 4, none⟩ = some (.string a5) ∧ w6.cell? ⟨w2.heap.size + 1, 0, none⟩ = some (.int .u8 t) ∧ w6.cell? ⟨w2.heap.size + 1, 1, none⟩ = some (.int .u8 c) ∧ w6.cell? ⟨w2.heap.size + 1, 2, none⟩ = some (.int .u16 n) ∧ w6.cell? ⟨w2.heap.size + 1, 3, none⟩ = some (.string r) ∧ w6.cell? ⟨w2.heap.size + 1, 4, none⟩ = some (.string d) ∧ True) := ⟨(by (repeat' (first | with_reducible exact b6 | with_reducible exact Below.refl _ _ | with_reducible refine Below.setCell ?_ (by first | exact Nat.le_refl _ | (dsimp only; omega)) _ | with_reducible refine bstep ?_ (fresh_below _ _) | with_reducible refine Below.drew ?_))), d0.at_ 0, d0.at_ 1, d0.at_ 2, d0.at_ 3, d0.at_ 4, d1.at_ 0, d1.at_ 1, d1.at_ 2, d1.at_ 3, d1.at_ 4, d2.at_ 0, d2.at_ 1, d2.at_ 2, d2.at_ 3, d2.at_ 4, d3.at_ 0, d3.at_ 1, d3.at_ 2, d3.at_ 3, d3.at_ 4, trivial⟩
  go_region_held3 (fun w' => (Below w.heap.size w w' ∧ w'.cell? ⟨w.heap.size, 0, none⟩ = some (.int .u8 t) ∧ w'.cell? ⟨w.heap.size, 1, none⟩ = some (.int .u8 c) ∧ w'.cell? ⟨w.heap.size, 2, none⟩ = some (.int .u16 n) ∧ w'.cell? ⟨w.heap.size, 3, none⟩ = some (.string r) ∧ w'.cell? ⟨w.heap.size, 4, none⟩ = some (.string d) ∧ w'.cell? ⟨w1.heap.size, 0, none⟩ = some (.int .u8 a1) ∧ w'.cell? ⟨w1.heap.size, 1, none⟩ = some (.int .u8 a2) ∧ w'.cell? ⟨w1.heap.size, 2, none⟩ = some (.int .u16 a3) ∧ w'.cell? ⟨w1.heap.size, 3, none⟩ = some (.string a4) ∧ w'.cell? ⟨w1.heap.size, 4, none⟩ = some (.string a5) ∧ w'.cell? ⟨w2.heap.size, 0, none⟩ = some (.int .u8 a1) ∧ w'.cell? ⟨w2.heap.size, 1, none⟩ = some (.int .u8 a2) ∧ w'.cell? ⟨w2.heap.size, 2, none⟩ = some (.int .u16 a3) ∧ w'.cell? ⟨w2.heap.size, 3, none⟩ = some (.string a4) ∧ w'.cell? ⟨w2.heap.size, 4, none⟩ = some (.string a5) ∧ w'.cell? ⟨w2.heap.size + 1, 0, none⟩ = some (.int .u8 t) ∧ w'.cell? ⟨w2.heap.size + 1, 1, none⟩ = some (.int .u8 c) ∧ w'.cell? ⟨w2.heap.size + 1, 2, none⟩ = some (.int .u16 n) ∧ w'.cell? ⟨w2.heap.size + 1, 3, none⟩ = some (.string r) ∧ w'.cell? ⟨w2.heap.size + 1, 4, none⟩ = some (.string d) ∧ True)) (first | assumption | exact SK.out _ _ hS0 (Below.refl _ _).drew | exact SK.out _ _ hS0 (fresh_below _ _).drew | exact SK.out _ _ (by assumption) (fresh_below _ _) | (refine SK.out _ _ ?_ (by assumption); assumption))
    (first | (go_at_call 19; (with_reducible refine (Q5.out _ (KK.out.below (by first | exact FS.out _ (by assumption) | exact bstep (FS.out _ (by assumption)) (fresh_below _ _) | exact bstep (bstep (FS.out _ (by assumption)) (fresh_below _ _)) (fresh_below _ _)))).mono ?_); rintro e wq ⟨rfl, bq⟩) | (go_at_call 20; (with_reducible refine (Q6.out _).mono ?_); rintro e wq ⟨rfl, bq⟩) | (go_at_call 21; (with_reducible refine (Q7.out _).mono ?_); rintro e wq ⟨rfl, bq⟩) | (go_at_call 22; (with_reducible refine (Q8.out _).mono ?_); rintro e wq ⟨rfl, bq⟩) | (go_at_call 23; (with_reducible refine (Q9.out _).mono ?_); rintro e wq ⟨rfl, bq⟩) | (go_at_call 24; (with_reducible refine (Q10.out _).mono ?_); rintro e wq ⟨rfl, bq⟩) | (go_at_call 8; (with_reducible refine (C0.out _ (KK.out.below (by first | exact FS.out _ (by assumption) | exact bstep (FS.out _ (by assumption)) (fresh_below _ _) | exact bstep (bstep (FS.out _ (by assumption)) (fresh_below _ _)) (fresh_below _ _)))).mono ?_); rintro e wq ⟨rfl, bq⟩))
  all_goals
    go_wp2
    go_ret
    exact ⟨rfl, (by first | exact FS.out _ (by assumption) | exact bstep (FS.out _ (by assumption)) (fresh_below _ _) | exact bstep (bstep (FS.out _ (by assumption)) (fresh_below _ _)) (fresh_below _ _))⟩

theorem IcmpTell_walk (s : ByteArray) (t c n : Int) (r d : ByteArray) (id : Int) (w : World) (K0 : Kinds w) (hs : s.size ≤ 140737488351232) (ht : 0 ≤ t ∧ t ≤ 255) (hc : 0 ≤ c ∧ c ≤ 255) (hn : 0 ≤ n ∧ n ≤ 65535) (hr : r.size ≤ 140737488351232) (hd : d.size ≤ 140737488351232) (hi : 0 ≤ id ∧ id ≤ 65535) :
    Calls Tryd.prog 5 #[.string s, .agg #[.int .u8 t, .int .u8 c, .int .u16 n, .string r, .string d], .int .u16 id] w (Ret (.bool true) w) :=
  IcmpTell_core s ⟨t, c, n, r, d⟩ id w K0 hs ⟨ht, hc, hn, hr, hd⟩ hi
end Go.Proofs.YthmedjlecikbiaaDoor
