/- IcmpID walked. -/
import Derived.Test.YthmedjlecikbiaaDoorIcmpV
set_option linter.unusedVariables false
set_option linter.unusedSimpArgs false
namespace Go.Proofs.YthmedjlecikbiaaDoor
open Go.RowKit Go.Maps
attribute [local go_sem] Oper.semAt_some

set_option maxRecDepth 100000 in
set_option maxHeartbeats 8000000 in
theorem IcmpID_sA (s v t tv tt : ByteArray) (id : Int) (w : World) (K0 : Kinds w) (h8 : 8 ≤ s.size) (h6 : s.size ≤ 600) (x1 x2 x3 y1 y2 y3 q u : Int) (x4 x5 y4 y5 : ByteArray) (b : Bool)
    (hv : v.size = s.size) (p1 : ∀ w, Calls Tryd.prog 11 #[.string s] w (Ret (.string v) w))
    (p2 : ∀ w, Calls Tryd.prog 13 #[.string v] w (Ret (.tuple #[.agg #[.int .u8 x1, .int .u8 x2, .int .u16 x3, .string x4, .string x5], .bool true]) w))
    (p3 : ∀ w, Calls Tryd.prog 23 #[.agg #[.int .u8 x1, .int .u8 x2, .int .u16 x3, .string x4, .string x5], .int .u16 id] w (Ret (.agg #[.int .u8 y1, .int .u8 y2, .int .u16 y3, .string y4, .string y5]) w))
    (p4 : ∀ w, Calls Tryd.prog 21 #[.agg #[.int .u8 x1, .int .u8 x2, .int .u16 x3, .string x4, .string x5]] w (Ret (.int .u16 q) w))
    (p5 : ∀ w, Calls Tryd.prog 25 #[.int .u16 x3, .int .u16 q, .int .u16 id] w (Ret (.int .u16 u) w))
    (p6 : ∀ w, Calls Tryd.prog 15 #[.agg #[.int .u8 y1, .int .u8 y2, .int .u16 u, .string y4, .string y5]] w (Ret (.tuple #[.string t, .int .i64 0]) w))
    (p7 : ∀ w, Calls Tryd.prog 26 #[.string v, .string { data := #[0] }] w (Ret (.string tv) w))
    (p8 : ∀ w, Calls Tryd.prog 26 #[.string t, .string { data := #[0] }] w (Ret (.string tt) w))
    
    (p10 : ∀ w, Calls Tryd.prog 9 #[.string v] w (Ret (.bool b) w))
    (hz : t.size = s.size) (q6 : ((t.extract 6 s.size).toList == (v.extract 6 s.size).toList) = true)
    (hk : (tv.toList == []) = true) :
    Calls Tryd.prog 7 #[.string s, .bool true, .int .u16 id] w (Ret (.bool true) w) := by
  have c0 := fun w k => echoed w k
  have KK := hide K0; have C0 := hide c0; have P1 := hide p1; have P2 := hide p2; have P3 := hide p3; have P4 := hide p4; have P5 := hide p5; have P6 := hide p6; have P7 := hide p7; have P8 := hide p8; have P10 := hide p10
  clear K0 c0 p1 p2 p3 p4 p5 p6 p7 p8 p10
  have m1 : ¬ (s.size : Int) < 8 := by omega
  have m2 : ¬ 600 < (s.size : Int) := by omega
  have m3 : (6 : Int) ≤ (s.size : Int) := by omega
  have qb : (b == b) = true := by simp
  have k1 := hk
  go_enter Tryd.func7, Tryd.ntmps7
  go_wp2_with fail
  (with_reducible refine (P1.out _).mono ?_)
  rintro e w1 ⟨rfl, b1⟩
  replace b1 : Below w.heap.size w w1 := by (refine bstep ?_ b1); (repeat' (first | with_reducible exact Below.refl _ _ | with_reducible refine Below.setCell ?_ (by first | exact Nat.le_refl _ | (dsimp only; omega)) _ | with_reducible refine bstep ?_ (fresh_below _ _) | with_reducible refine Below.drew ?_))
  have z1 : w.heap.size ≤ w1.heap.size := b1.size
  go_wp2_with fail
  (with_reducible refine (P2.out _).mono ?_)
  rintro e w2 ⟨rfl, b2⟩
  replace b2 : Below w.heap.size w w2 := by (refine bstep ?_ b2); (repeat' (first | with_reducible exact b1 | with_reducible exact Below.refl _ _ | with_reducible refine Below.setCell ?_ (by first | exact Nat.le_refl _ | (dsimp only; omega)) _ | with_reducible refine bstep ?_ (fresh_below _ _) | with_reducible refine Below.drew ?_))
  have z2 : w.heap.size ≤ w2.heap.size := b2.size
  have dm := Cells.new w2 #[.int .u8 x1, .int .u8 x2, .int .u16 x3, .string x4, .string x5] 29
  have dx := dm
  have xdx_0 : (w2.alloc (.cells #[.int .u8 x1, .int .u8 x2, .int .u16 x3, .string x4, .string x5] 29)).cell? ⟨w2.heap.size, 0, none⟩ = some (.int .u8 x1) := dx.at_ 0
  have xdx_1 : (w2.alloc (.cells #[.int .u8 x1, .int .u8 x2, .int .u16 x3, .string x4, .string x5] 29)).cell? ⟨w2.heap.size, 1, none⟩ = some (.int .u8 x2) := dx.at_ 1
  have xdx_2 : (w2.alloc (.cells #[.int .u8 x1, .int .u8 x2, .int .u16 x3, .string x4, .string x5] 29)).cell? ⟨w2.heap.size, 2, none⟩ = some (.int .u16 x3) := dx.at_ 2
  have xdx_3 : (w2.alloc (.cells #[.int .u8 x1, .int .u8 x2, .int .u16 x3, .string x4, .string x5] 29)).cell? ⟨w2.heap.size, 3, none⟩ = some (.string x4) := dx.at_ 3
  have xdx_4 : (w2.alloc (.cells #[.int .u8 x1, .int .u8 x2, .int .u16 x3, .string x4, .string x5] 29)).cell? ⟨w2.heap.size, 4, none⟩ = some (.string x5) := dx.at_ 4
  go_wp2_with fail
  (with_reducible refine (P3.out _).mono ?_)
  rintro e w3 ⟨rfl, b3⟩
  replace dm := Cells.up dm (by (repeat' (first | with_reducible exact Below.refl _ _ | with_reducible refine bstep ?_ (fresh_below _ _) | with_reducible refine Below.drew ?_))) b3
  replace b3 : Below w.heap.size w w3 := by (refine bstep ?_ b3); (repeat' (first | with_reducible exact b2 | with_reducible exact Below.refl _ _ | with_reducible refine Below.setCell ?_ (by first | exact Nat.le_refl _ | (dsimp only; omega)) _ | with_reducible refine bstep ?_ (fresh_below _ _) | with_reducible refine Below.drew ?_))
  have z3 : w.heap.size ≤ w3.heap.size := b3.size
  have nlt : w2.heap.size < w3.heap.size := dm.lt
  replace dm := Cells.below (fresh_below w3 (.cells #[.int .u8 y1, .int .u8 y2, .int .u16 y3, .string y4, .string y5] 29)) dm
  have dn := Cells.new w3 #[.int .u8 y1, .int .u8 y2, .int .u16 y3, .string y4, .string y5] 29
  have b4 : Below w.heap.size w (w3.alloc (.cells #[.int .u8 y1, .int .u8 y2, .int .u16 y3, .string y4, .string y5] 29)) := bstep b3 (fresh_below _ _)
  have n1 : w2.heap.size ≠ w3.heap.size := Nat.ne_of_lt nlt
  go_wp2_with fail
  generalize w3.alloc (.cells #[.int .u8 y1, .int .u8 y2, .int .u16 y3, .string y4, .string y5] 29) = W at *
  have fS := hide (fun (zX : World) (hX : Cells zX w2.heap.size #[.int .u8 x1, .int .u8 x2, .int .u16 x3, .string x4, .string x5] 29) => (show World.cell? zX ⟨w2.heap.size, 0, none⟩ = some (.int .u8 x1) ∧ World.cell? zX ⟨w2.heap.size, 1, none⟩ = some (.int .u8 x2) ∧ World.cell? zX ⟨w2.heap.size, 2, none⟩ = some (.int .u16 x3) ∧ World.cell? zX ⟨w2.heap.size, 3, none⟩ = some (.string x4) ∧ World.cell? zX ⟨w2.heap.size, 4, none⟩ = some (.string x5) from ⟨hX.at_ 0, hX.at_ 1, hX.at_ 2, hX.at_ 3, hX.at_ 4⟩))
  have HM := hide dm
  go_region_held3 (fun zW => World.cell? zW ⟨w2.heap.size, 0, none⟩ = some (.int .u8 x1) ∧ World.cell? zW ⟨w2.heap.size, 1, none⟩ = some (.int .u8 x2) ∧ World.cell? zW ⟨w2.heap.size, 2, none⟩ = some (.int .u16 x3) ∧ World.cell? zW ⟨w2.heap.size, 3, none⟩ = some (.string x4) ∧ World.cell? zW ⟨w2.heap.size, 4, none⟩ = some (.string x5)) (((try dsimp only); with_reducible refine fS.out _ ?_; (repeat' (first | with_reducible exact HM.out | with_reducible assumption | with_reducible refine Cells.drew ?_ | with_reducible refine Cells.other ?_ n1 _ _))))
    (first | (go_at_call 21; (with_reducible refine (P4.out _).mono ?_); rintro e wa ⟨rfl, ba⟩; have Da : Cells wa w2.heap.size #[.int .u8 x1, .int .u8 x2, .int .u16 x3, .string x4, .string x5] 29 := Cells.below ba dm; have Ea : Cells wa w3.heap.size #[.int .u8 y1, .int .u8 y2, .int .u16 y3, .string y4, .string y5] 29 := Cells.below ba dn) | (go_at_call 25; (with_reducible refine (P5.out _).mono ?_); rintro e wb ⟨rfl, bb⟩; have Db := Cells.below bb Da; have Eb := Cells.below bb Ea; have E0 : wb.cell? ⟨w3.heap.size, 2, none⟩ = some (.int .u16 y3) := Eb.at_ 2; have E1 := Eb.free 2))
  all_goals
    have b5 : Below w.heap.size w wb := bstep (bstep b4.drew ba) bb
    have d7 : Cells (wb.setCell ⟨w3.heap.size, 2, none⟩ (.int .u16 u)) w3.heap.size #[.int .u8 y1, .int .u8 y2, .int .u16 u, .string y4, .string y5] 29 := Eb.set_ 2 (.int .u16 u)
    have b7 : Below w.heap.size w (wb.setCell ⟨w3.heap.size, 2, none⟩ (.int .u16 u)) := Below.setCell b5 (p := ⟨w3.heap.size, 2, none⟩) b3.size _
    clear Da Ea Db Eb E0 E1 ba bb b5
    generalize (wb.setCell ⟨w3.heap.size, 2, none⟩ (.int .u16 u)) = W7 at *
    have xd7_0 : W7.cell? ⟨w3.heap.size, 0, none⟩ = some (.int .u8 y1) := d7.at_ 0
    have xd7_1 : W7.cell? ⟨w3.heap.size, 1, none⟩ = some (.int .u8 y2) := d7.at_ 1
    have xd7_2 : W7.cell? ⟨w3.heap.size, 2, none⟩ = some (.int .u16 u) := d7.at_ 2
    have xd7_3 : W7.cell? ⟨w3.heap.size, 3, none⟩ = some (.string y4) := d7.at_ 3
    have xd7_4 : W7.cell? ⟨w3.heap.size, 4, none⟩ = some (.string y5) := d7.at_ 4
    go_wp2_with fail
    (with_reducible refine (P6.out _).mono ?_)
    rintro e w8 ⟨rfl, b8⟩
    replace b8 : Below w.heap.size w w8 := bstep b7 b8
    have z8 : w.heap.size ≤ w8.heap.size := b8.size
    clear xd7_0 xd7_1 xd7_2 xd7_3 xd7_4 d7
    go_wp2_with fail
    (with_reducible refine (P7.out _).mono ?_)
    rintro e w9 ⟨rfl, b9⟩
    replace b9 : Below w.heap.size w w9 := by (refine bstep ?_ b9); (repeat' (first | with_reducible exact b8 | with_reducible exact Below.refl _ _ | with_reducible refine Below.setCell ?_ (by first | exact Nat.le_refl _ | (dsimp only; omega)) _ | with_reducible refine bstep ?_ (fresh_below _ _) | with_reducible refine Below.drew ?_))
    have z9 : w.heap.size ≤ w9.heap.size := b9.size
    have b10 := b9
    go_wp2_with fail
    refine wp_region_held_drew (S := fun _ => True) (by kernel_rfl) trivial (fun _ => ?_)
    refine wpAnyH_take (i := 0) (v := ?v0_1) rfl (by kernel_rfl) (by kernel_rfl) (by kernel_rfl) (fun _ _ _ h => h) (Or.inl (And.intro (by kernel_rfl) ?q0_1)) trivial ?r0_1; (case q0_1 => (intro w _; (try dsimp only); (try go_simp); (try with_reducible rfl)))
    try simp only [Act.put, List.setIfInBounds_toArray, List.set_cons_zero, List.set_cons_succ, List.getElem_toArray, List.getElem_cons_succ, List.getElem_cons_zero]
    refine wpAnyH_take (i := 1) (v := ?v1_2) rfl (by kernel_rfl) (by kernel_rfl) (by kernel_rfl) (fun _ _ _ h => h) (Or.inl (And.intro (by kernel_rfl) ?q1_2)) trivial ?r1_2; (case q1_2 => (intro w _; (try dsimp only); (try go_simp); (try with_reducible rfl)))
    try simp only [Act.put, List.setIfInBounds_toArray, List.set_cons_zero, List.set_cons_succ, List.getElem_toArray, List.getElem_cons_succ, List.getElem_cons_zero]
    refine wpAnyH_take (i := 2) (v := undef) rfl (by kernel_rfl) (by kernel_rfl) (by kernel_rfl) (fun _ _ _ h => h) (Or.inr (And.intro (by kernel_rfl) rfl)) trivial ?r2_3
    try simp only [Act.put, List.setIfInBounds_toArray, List.set_cons_zero, List.set_cons_succ, List.getElem_toArray, List.getElem_cons_succ, List.getElem_cons_zero]
    refine wpAnyH_take (i := 3) (v := undef) rfl (by kernel_rfl) (by kernel_rfl) (by kernel_rfl) (fun _ _ _ h => h) (Or.inr (And.intro (by kernel_rfl) rfl)) trivial ?r3_4
    try simp only [Act.put, List.setIfInBounds_toArray, List.set_cons_zero, List.set_cons_succ, List.getElem_toArray, List.getElem_cons_succ, List.getElem_cons_zero]
    refine wpAnyH_take (i := 4) (v := undef) rfl (by kernel_rfl) (by kernel_rfl) (by kernel_rfl) (fun _ _ _ h => h) (Or.inr (And.intro (by kernel_rfl) rfl)) trivial ?r4_5
    try simp only [Act.put, List.setIfInBounds_toArray, List.set_cons_zero, List.set_cons_succ, List.getElem_toArray, List.getElem_cons_succ, List.getElem_cons_zero]
    refine wpAnyH_take (i := 5) (v := undef) rfl (by kernel_rfl) (by kernel_rfl) (by kernel_rfl) (fun _ _ _ h => h) (Or.inr (And.intro (by kernel_rfl) rfl)) trivial ?r5_6
    try simp only [Act.put, List.setIfInBounds_toArray, List.set_cons_zero, List.set_cons_succ, List.getElem_toArray, List.getElem_cons_succ, List.getElem_cons_zero]
    refine wpAnyH_take (i := 6) (v := undef) rfl (by kernel_rfl) (by kernel_rfl) (by kernel_rfl) (fun _ _ _ h => h) (Or.inr (And.intro (by kernel_rfl) rfl)) trivial ?r6_7
    try simp only [Act.put, List.setIfInBounds_toArray, List.set_cons_zero, List.set_cons_succ, List.getElem_toArray, List.getElem_cons_succ, List.getElem_cons_zero]
    refine wpAnyH_take (i := 7) (v := ?v7_8) rfl (by kernel_rfl) (by kernel_rfl) (by kernel_rfl) (fun _ _ _ h => h) (Or.inl (And.intro (by kernel_rfl) ?q7_8)) trivial ?r7_8; (case q7_8 => (intro w _; (try dsimp only); (try go_simp); (try with_reducible rfl)))
    try simp only [Act.put, List.setIfInBounds_toArray, List.set_cons_zero, List.set_cons_succ, List.getElem_toArray, List.getElem_cons_succ, List.getElem_cons_zero]
    refine wpAnyH_take (i := 8) (v := ?v8_9) rfl (by kernel_rfl) (by kernel_rfl) (by kernel_rfl) (fun _ _ _ h => h) (Or.inl (And.intro (by kernel_rfl) ?q8_9)) trivial ?r8_9; (case q8_9 => (intro w _; (try dsimp only); (try go_simp); (try with_reducible rfl)))
    try simp only [Act.put, List.setIfInBounds_toArray, List.set_cons_zero, List.set_cons_succ, List.getElem_toArray, List.getElem_cons_succ, List.getElem_cons_zero]
    refine wpAnyH_take (i := 9) (v := ?v9_10) rfl (by kernel_rfl) (by kernel_rfl) (by kernel_rfl) (fun _ _ _ h => h) (Or.inl (And.intro (by kernel_rfl) ?q9_10)) trivial ?r9_10; (case q9_10 => (intro w _; (try dsimp only); (try go_simp); (try with_reducible rfl)))
    try simp only [Act.put, List.setIfInBounds_toArray, List.set_cons_zero, List.set_cons_succ, List.getElem_toArray, List.getElem_cons_succ, List.getElem_cons_zero]
    refine wpAnyH_take (i := 10) (v := ?v10_11) rfl (by kernel_rfl) (by kernel_rfl) (by kernel_rfl) (fun _ _ _ h => h) (Or.inl (And.intro (by kernel_rfl) ?q10_11)) trivial ?r10_11; (case q10_11 => (intro w _; (try dsimp only); (try go_simp); (try with_reducible rfl)))
    try simp only [Act.put, List.setIfInBounds_toArray, List.set_cons_zero, List.set_cons_succ, List.getElem_toArray, List.getElem_cons_succ, List.getElem_cons_zero]
    refine wpAnyH_take (i := 11) (v := ?v11_12) rfl (by kernel_rfl) (by kernel_rfl) (by kernel_rfl) (fun _ _ _ h => h) (Or.inl (And.intro (by kernel_rfl) ?q11_12)) trivial ?r11_12; (case q11_12 => (intro w _; (try dsimp only); (try go_simp); (try with_reducible rfl)))
    try simp only [Act.put, List.setIfInBounds_toArray, List.set_cons_zero, List.set_cons_succ, List.getElem_toArray, List.getElem_cons_succ, List.getElem_cons_zero]
    refine wpAnyH_take (i := 12) (v := ?v12_13) rfl (by kernel_rfl) (by kernel_rfl) (by kernel_rfl) (fun _ _ _ h => h) (Or.inl (And.intro (by kernel_rfl) ?q12_13)) trivial ?r12_13; (case q12_13 => (intro w _; (try dsimp only); (try go_simp); (try with_reducible rfl)))
    try simp only [Act.put, List.setIfInBounds_toArray, List.set_cons_zero, List.set_cons_succ, List.getElem_toArray, List.getElem_cons_succ, List.getElem_cons_zero]
    refine wpAnyH_take (i := 13) (v := ?v13_14) rfl (by kernel_rfl) (by kernel_rfl) (by kernel_rfl) (fun _ _ _ h => h) (Or.inl (And.intro (by kernel_rfl) ?q13_14)) trivial ?r13_14; (case q13_14 => (intro w _; (try dsimp only); (try go_simp); (try with_reducible rfl)))
    try simp only [Act.put, List.setIfInBounds_toArray, List.set_cons_zero, List.set_cons_succ, List.getElem_toArray, List.getElem_cons_succ, List.getElem_cons_zero]
    refine wpAnyH_take (i := 14) (v := ?v14_15) rfl (by kernel_rfl) (by kernel_rfl) (by kernel_rfl) (fun _ _ _ h => h) (Or.inl (And.intro (by kernel_rfl) ?q14_15)) trivial ?r14_15; (case q14_15 => (intro w _; (try dsimp only); (try go_simp); (try with_reducible rfl)))
    try simp only [Act.put, List.setIfInBounds_toArray, List.set_cons_zero, List.set_cons_succ, List.getElem_toArray, List.getElem_cons_succ, List.getElem_cons_zero]
    refine wpAnyH_take (i := 15) (v := ?v15_16) rfl (by kernel_rfl) (by kernel_rfl) (by kernel_rfl) (fun _ _ _ h => h) (Or.inl (And.intro (by kernel_rfl) ?q15_16)) trivial ?r15_16; (case q15_16 => (intro w _; (try dsimp only); (try go_simp); (try with_reducible rfl)))
    try simp only [Act.put, List.setIfInBounds_toArray, List.set_cons_zero, List.set_cons_succ, List.getElem_toArray, List.getElem_cons_succ, List.getElem_cons_zero]
    refine wpAnyH_take (i := 16) (v := ?v16_17) rfl (by kernel_rfl) (by kernel_rfl) (by kernel_rfl) (fun _ _ _ h => h) (Or.inl (And.intro (by kernel_rfl) ?q16_17)) trivial ?r16_17; (case q16_17 => (intro w _; (try dsimp only); (try go_simp); (try with_reducible rfl)))
    try simp only [Act.put, List.setIfInBounds_toArray, List.set_cons_zero, List.set_cons_succ, List.getElem_toArray, List.getElem_cons_succ, List.getElem_cons_zero]
    refine wpAnyH_take (i := 17) (v := ?v17_18) rfl (by kernel_rfl) (by kernel_rfl) (by kernel_rfl) (fun _ _ _ h => h) (Or.inl (And.intro (by kernel_rfl) ?q17_18)) trivial ?r17_18; (case q17_18 => (intro w _; (try dsimp only); (try go_simp); (try with_reducible rfl)))
    try simp only [Act.put, List.setIfInBounds_toArray, List.set_cons_zero, List.set_cons_succ, List.getElem_toArray, List.getElem_cons_succ, List.getElem_cons_zero]
    refine wpAnyH_take (i := 18) (v := ?v18_19) rfl (by kernel_rfl) (by kernel_rfl) (by kernel_rfl) (fun _ _ _ h => h) (Or.inl (And.intro (by kernel_rfl) ?q18_19)) trivial ?r18_19; (case q18_19 => (intro w _; (try dsimp only); (try go_simp); (try with_reducible rfl)))
    try simp only [Act.put, List.setIfInBounds_toArray, List.set_cons_zero, List.set_cons_succ, List.getElem_toArray, List.getElem_cons_succ, List.getElem_cons_zero]
    refine wpAnyH_take (i := 19) (v := ?v19_20) rfl (by kernel_rfl) (by kernel_rfl) (by kernel_rfl) (fun _ _ _ h => h) (Or.inl (And.intro (by kernel_rfl) ?q19_20)) trivial ?r19_20; (case q19_20 => (intro w _; (try dsimp only); (try go_simp); (try with_reducible rfl)))
    try simp only [Act.put, List.setIfInBounds_toArray, List.set_cons_zero, List.set_cons_succ, List.getElem_toArray, List.getElem_cons_succ, List.getElem_cons_zero]
    refine wpAnyH_take (i := 20) (v := ?v20_21) rfl (by kernel_rfl) (by kernel_rfl) (by kernel_rfl) (fun _ _ _ h => h) (Or.inl (And.intro (by kernel_rfl) ?q20_21)) trivial ?r20_21; (case q20_21 => (intro w _; (try dsimp only); (try go_simp); (try with_reducible rfl)))
    try simp only [Act.put, List.setIfInBounds_toArray, List.set_cons_zero, List.set_cons_succ, List.getElem_toArray, List.getElem_cons_succ, List.getElem_cons_zero]
    refine wpAnyH_take (i := 21) (v := ?v21_22) rfl (by kernel_rfl) (by kernel_rfl) (by kernel_rfl) (fun _ _ _ h => h) (Or.inl (And.intro (by kernel_rfl) ?q21_22)) trivial ?r21_22; (case q21_22 => (intro w _; (try dsimp only); (try go_simp); (try with_reducible rfl)))
    try simp only [Act.put, List.setIfInBounds_toArray, List.set_cons_zero, List.set_cons_succ, List.getElem_toArray, List.getElem_cons_succ, List.getElem_cons_zero]
    refine wpAnyH_take (i := 22) (v := ?v22_23) rfl (by kernel_rfl) (by kernel_rfl) (by kernel_rfl) (fun _ _ _ h => h) (Or.inl (And.intro (by kernel_rfl) ?q22_23)) trivial ?r22_23; (case q22_23 => (intro w _; (try dsimp only); (try go_simp); (try with_reducible rfl)))
    try simp only [Act.put, List.setIfInBounds_toArray, List.set_cons_zero, List.set_cons_succ, List.getElem_toArray, List.getElem_cons_succ, List.getElem_cons_zero]
    refine wpAnyH_ready (rs := [23]) (by kernel_rfl) (by simp) ?_
    refine AllReadyH.cons rfl (fun K hK => ?_) AllReadyH.nil
    rw [if_pos (by kernel_rfl)]
    (try simp only [List.getElem_toArray, List.getElem_cons_succ, List.getElem_cons_zero])
    go_simp
    (with_reducible refine (C0.out _ (KK.out.below (by (repeat' (first | with_reducible exact b9 | with_reducible exact Below.refl _ _ | with_reducible refine Below.setCell ?_ (by first | exact Nat.le_refl _ | (dsimp only; omega)) _ | with_reducible refine bstep ?_ (fresh_below _ _) | with_reducible refine Below.drew ?_))))).mono ?_)
    rintro e wJ23 ⟨rfl, bJ23⟩
    replace bJ23 : Below w.heap.size w wJ23 := by (refine bstep ?_ bJ23); (repeat' (first | with_reducible exact b9 | with_reducible exact Below.refl _ _ | with_reducible refine Below.setCell ?_ (by first | exact Nat.le_refl _ | (dsimp only; omega)) _ | with_reducible refine bstep ?_ (fresh_below _ _) | with_reducible refine Below.drew ?_))
    try go_wp2_with fail
    refine hK.out _ _ trivial (fun _ => ?_)
    clear hK K
    try simp only [Act.put, List.setIfInBounds_toArray, List.set_cons_zero, List.set_cons_succ, List.getElem_toArray, List.getElem_cons_succ, List.getElem_cons_zero]
    refine wpAnyH_take (i := 24) (v := ?v24_25) rfl (by kernel_rfl) (by kernel_rfl) (by kernel_rfl) (fun _ _ _ h => h) (Or.inl (And.intro (by kernel_rfl) ?q24_25)) trivial ?r24_25; (case q24_25 => (intro w _; (try dsimp only); (try go_simp); (try with_reducible rfl)))
    try simp only [Act.put, List.setIfInBounds_toArray, List.set_cons_zero, List.set_cons_succ, List.getElem_toArray, List.getElem_cons_succ, List.getElem_cons_zero]
    refine wpAnyH_take (i := 25) (v := ?v25_26) rfl (by kernel_rfl) (by kernel_rfl) (by kernel_rfl) (fun _ _ _ h => h) (Or.inl (And.intro (by kernel_rfl) ?q25_26)) trivial ?r25_26; (case q25_26 => (intro w _; (try dsimp only); (try go_simp); (try with_reducible rfl)))
    try simp only [Act.put, List.setIfInBounds_toArray, List.set_cons_zero, List.set_cons_succ, List.getElem_toArray, List.getElem_cons_succ, List.getElem_cons_zero]
    refine wpAnyH_done (by kernel_rfl) ?_ _
    go_wp2
    go_ret
    exact ⟨rfl, (by (repeat' (first | with_reducible exact bJ23 | with_reducible exact Below.refl _ _ | with_reducible refine Below.setCell ?_ (by first | exact Nat.le_refl _ | (dsimp only; omega)) _ | with_reducible refine bstep ?_ (fresh_below _ _) | with_reducible refine Below.drew ?_)))⟩

set_option maxRecDepth 100000 in
set_option maxHeartbeats 8000000 in
theorem IcmpID_sB (s v t tv tt : ByteArray) (id : Int) (w : World) (K0 : Kinds w) (h8 : 8 ≤ s.size) (h6 : s.size ≤ 600) (x1 x2 x3 y1 y2 y3 q u : Int) (x4 x5 y4 y5 : ByteArray) (b : Bool)
    (hv : v.size = s.size) (p1 : ∀ w, Calls Tryd.prog 11 #[.string s] w (Ret (.string v) w))
    (p2 : ∀ w, Calls Tryd.prog 13 #[.string v] w (Ret (.tuple #[.agg #[.int .u8 x1, .int .u8 x2, .int .u16 x3, .string x4, .string x5], .bool true]) w))
    (p3 : ∀ w, Calls Tryd.prog 23 #[.agg #[.int .u8 x1, .int .u8 x2, .int .u16 x3, .string x4, .string x5], .int .u16 id] w (Ret (.agg #[.int .u8 y1, .int .u8 y2, .int .u16 y3, .string y4, .string y5]) w))
    (p4 : ∀ w, Calls Tryd.prog 21 #[.agg #[.int .u8 x1, .int .u8 x2, .int .u16 x3, .string x4, .string x5]] w (Ret (.int .u16 q) w))
    (p5 : ∀ w, Calls Tryd.prog 25 #[.int .u16 x3, .int .u16 q, .int .u16 id] w (Ret (.int .u16 u) w))
    (p6 : ∀ w, Calls Tryd.prog 15 #[.agg #[.int .u8 y1, .int .u8 y2, .int .u16 u, .string y4, .string y5]] w (Ret (.tuple #[.string t, .int .i64 0]) w))
    (p7 : ∀ w, Calls Tryd.prog 26 #[.string v, .string { data := #[0] }] w (Ret (.string tv) w))
    (p8 : ∀ w, Calls Tryd.prog 26 #[.string t, .string { data := #[0] }] w (Ret (.string tt) w))
    
    (p10 : ∀ w, Calls Tryd.prog 9 #[.string v] w (Ret (.bool b) w))
    (hz : t.size = s.size) (q6 : ((t.extract 6 s.size).toList == (v.extract 6 s.size).toList) = true)
    (hk : (tv.toList == []) = false ∧ (tt.toList == []) = true) :
    Calls Tryd.prog 7 #[.string s, .bool true, .int .u16 id] w (Ret (.bool true) w) := by
  have c0 := fun w k => echoed w k
  have KK := hide K0; have C0 := hide c0; have P1 := hide p1; have P2 := hide p2; have P3 := hide p3; have P4 := hide p4; have P5 := hide p5; have P6 := hide p6; have P7 := hide p7; have P8 := hide p8; have P10 := hide p10
  clear K0 c0 p1 p2 p3 p4 p5 p6 p7 p8 p10
  have m1 : ¬ (s.size : Int) < 8 := by omega
  have m2 : ¬ 600 < (s.size : Int) := by omega
  have m3 : (6 : Int) ≤ (s.size : Int) := by omega
  have qb : (b == b) = true := by simp
  obtain ⟨k1, k2⟩ := hk
  go_enter Tryd.func7, Tryd.ntmps7
  go_wp2_with fail
  (with_reducible refine (P1.out _).mono ?_)
  rintro e w1 ⟨rfl, b1⟩
  replace b1 : Below w.heap.size w w1 := by (refine bstep ?_ b1); (repeat' (first | with_reducible exact Below.refl _ _ | with_reducible refine Below.setCell ?_ (by first | exact Nat.le_refl _ | (dsimp only; omega)) _ | with_reducible refine bstep ?_ (fresh_below _ _) | with_reducible refine Below.drew ?_))
  have z1 : w.heap.size ≤ w1.heap.size := b1.size
  go_wp2_with fail
  (with_reducible refine (P2.out _).mono ?_)
  rintro e w2 ⟨rfl, b2⟩
  replace b2 : Below w.heap.size w w2 := by (refine bstep ?_ b2); (repeat' (first | with_reducible exact b1 | with_reducible exact Below.refl _ _ | with_reducible refine Below.setCell ?_ (by first | exact Nat.le_refl _ | (dsimp only; omega)) _ | with_reducible refine bstep ?_ (fresh_below _ _) | with_reducible refine Below.drew ?_))
  have z2 : w.heap.size ≤ w2.heap.size := b2.size
  have dm := Cells.new w2 #[.int .u8 x1, .int .u8 x2, .int .u16 x3, .string x4, .string x5] 29
  have dx := dm
  have xdx_0 : (w2.alloc (.cells #[.int .u8 x1, .int .u8 x2, .int .u16 x3, .string x4, .string x5] 29)).cell? ⟨w2.heap.size, 0, none⟩ = some (.int .u8 x1) := dx.at_ 0
  have xdx_1 : (w2.alloc (.cells #[.int .u8 x1, .int .u8 x2, .int .u16 x3, .string x4, .string x5] 29)).cell? ⟨w2.heap.size, 1, none⟩ = some (.int .u8 x2) := dx.at_ 1
  have xdx_2 : (w2.alloc (.cells #[.int .u8 x1, .int .u8 x2, .int .u16 x3, .string x4, .string x5] 29)).cell? ⟨w2.heap.size, 2, none⟩ = some (.int .u16 x3) := dx.at_ 2
  have xdx_3 : (w2.alloc (.cells #[.int .u8 x1, .int .u8 x2, .int .u16 x3, .string x4, .string x5] 29)).cell? ⟨w2.heap.size, 3, none⟩ = some (.string x4) := dx.at_ 3
  have xdx_4 : (w2.alloc (.cells #[.int .u8 x1, .int .u8 x2, .int .u16 x3, .string x4, .string x5] 29)).cell? ⟨w2.heap.size, 4, none⟩ = some (.string x5) := dx.at_ 4
  go_wp2_with fail
  (with_reducible refine (P3.out _).mono ?_)
  rintro e w3 ⟨rfl, b3⟩
  replace dm := Cells.up dm (by (repeat' (first | with_reducible exact Below.refl _ _ | with_reducible refine bstep ?_ (fresh_below _ _) | with_reducible refine Below.drew ?_))) b3
  replace b3 : Below w.heap.size w w3 := by (refine bstep ?_ b3); (repeat' (first | with_reducible exact b2 | with_reducible exact Below.refl _ _ | with_reducible refine Below.setCell ?_ (by first | exact Nat.le_refl _ | (dsimp only; omega)) _ | with_reducible refine bstep ?_ (fresh_below _ _) | with_reducible refine Below.drew ?_))
  have z3 : w.heap.size ≤ w3.heap.size := b3.size
  have nlt : w2.heap.size < w3.heap.size := dm.lt
  replace dm := Cells.below (fresh_below w3 (.cells #[.int .u8 y1, .int .u8 y2, .int .u16 y3, .string y4, .string y5] 29)) dm
  have dn := Cells.new w3 #[.int .u8 y1, .int .u8 y2, .int .u16 y3, .string y4, .string y5] 29
  have b4 : Below w.heap.size w (w3.alloc (.cells #[.int .u8 y1, .int .u8 y2, .int .u16 y3, .string y4, .string y5] 29)) := bstep b3 (fresh_below _ _)
  have n1 : w2.heap.size ≠ w3.heap.size := Nat.ne_of_lt nlt
  go_wp2_with fail
  generalize w3.alloc (.cells #[.int .u8 y1, .int .u8 y2, .int .u16 y3, .string y4, .string y5] 29) = W at *
  have fS := hide (fun (zX : World) (hX : Cells zX w2.heap.size #[.int .u8 x1, .int .u8 x2, .int .u16 x3, .string x4, .string x5] 29) => (show World.cell? zX ⟨w2.heap.size, 0, none⟩ = some (.int .u8 x1) ∧ World.cell? zX ⟨w2.heap.size, 1, none⟩ = some (.int .u8 x2) ∧ World.cell? zX ⟨w2.heap.size, 2, none⟩ = some (.int .u16 x3) ∧ World.cell? zX ⟨w2.heap.size, 3, none⟩ = some (.string x4) ∧ World.cell? zX ⟨w2.heap.size, 4, none⟩ = some (.string x5) from ⟨hX.at_ 0, hX.at_ 1, hX.at_ 2, hX.at_ 3, hX.at_ 4⟩))
  have HM := hide dm
  go_region_held3 (fun zW => World.cell? zW ⟨w2.heap.size, 0, none⟩ = some (.int .u8 x1) ∧ World.cell? zW ⟨w2.heap.size, 1, none⟩ = some (.int .u8 x2) ∧ World.cell? zW ⟨w2.heap.size, 2, none⟩ = some (.int .u16 x3) ∧ World.cell? zW ⟨w2.heap.size, 3, none⟩ = some (.string x4) ∧ World.cell? zW ⟨w2.heap.size, 4, none⟩ = some (.string x5)) (((try dsimp only); with_reducible refine fS.out _ ?_; (repeat' (first | with_reducible exact HM.out | with_reducible assumption | with_reducible refine Cells.drew ?_ | with_reducible refine Cells.other ?_ n1 _ _))))
    (first | (go_at_call 21; (with_reducible refine (P4.out _).mono ?_); rintro e wa ⟨rfl, ba⟩; have Da : Cells wa w2.heap.size #[.int .u8 x1, .int .u8 x2, .int .u16 x3, .string x4, .string x5] 29 := Cells.below ba dm; have Ea : Cells wa w3.heap.size #[.int .u8 y1, .int .u8 y2, .int .u16 y3, .string y4, .string y5] 29 := Cells.below ba dn) | (go_at_call 25; (with_reducible refine (P5.out _).mono ?_); rintro e wb ⟨rfl, bb⟩; have Db := Cells.below bb Da; have Eb := Cells.below bb Ea; have E0 : wb.cell? ⟨w3.heap.size, 2, none⟩ = some (.int .u16 y3) := Eb.at_ 2; have E1 := Eb.free 2))
  all_goals
    have b5 : Below w.heap.size w wb := bstep (bstep b4.drew ba) bb
    have d7 : Cells (wb.setCell ⟨w3.heap.size, 2, none⟩ (.int .u16 u)) w3.heap.size #[.int .u8 y1, .int .u8 y2, .int .u16 u, .string y4, .string y5] 29 := Eb.set_ 2 (.int .u16 u)
    have b7 : Below w.heap.size w (wb.setCell ⟨w3.heap.size, 2, none⟩ (.int .u16 u)) := Below.setCell b5 (p := ⟨w3.heap.size, 2, none⟩) b3.size _
    clear Da Ea Db Eb E0 E1 ba bb b5
    generalize (wb.setCell ⟨w3.heap.size, 2, none⟩ (.int .u16 u)) = W7 at *
    have xd7_0 : W7.cell? ⟨w3.heap.size, 0, none⟩ = some (.int .u8 y1) := d7.at_ 0
    have xd7_1 : W7.cell? ⟨w3.heap.size, 1, none⟩ = some (.int .u8 y2) := d7.at_ 1
    have xd7_2 : W7.cell? ⟨w3.heap.size, 2, none⟩ = some (.int .u16 u) := d7.at_ 2
    have xd7_3 : W7.cell? ⟨w3.heap.size, 3, none⟩ = some (.string y4) := d7.at_ 3
    have xd7_4 : W7.cell? ⟨w3.heap.size, 4, none⟩ = some (.string y5) := d7.at_ 4
    go_wp2_with fail
    (with_reducible refine (P6.out _).mono ?_)
    rintro e w8 ⟨rfl, b8⟩
    replace b8 : Below w.heap.size w w8 := bstep b7 b8
    have z8 : w.heap.size ≤ w8.heap.size := b8.size
    clear xd7_0 xd7_1 xd7_2 xd7_3 xd7_4 d7
    go_wp2_with fail
    (with_reducible refine (P7.out _).mono ?_)
    rintro e w9 ⟨rfl, b9⟩
    replace b9 : Below w.heap.size w w9 := by (refine bstep ?_ b9); (repeat' (first | with_reducible exact b8 | with_reducible exact Below.refl _ _ | with_reducible refine Below.setCell ?_ (by first | exact Nat.le_refl _ | (dsimp only; omega)) _ | with_reducible refine bstep ?_ (fresh_below _ _) | with_reducible refine Below.drew ?_))
    have z9 : w.heap.size ≤ w9.heap.size := b9.size
    go_wp2_with fail
    (with_reducible refine (P8.out _).mono ?_)
    rintro e w10 ⟨rfl, b10⟩
    replace b10 : Below w.heap.size w w10 := by (refine bstep ?_ b10); (repeat' (first | with_reducible exact b9 | with_reducible exact Below.refl _ _ | with_reducible refine Below.setCell ?_ (by first | exact Nat.le_refl _ | (dsimp only; omega)) _ | with_reducible refine bstep ?_ (fresh_below _ _) | with_reducible refine Below.drew ?_))
    have z10 : w.heap.size ≤ w10.heap.size := b10.size
    go_wp2_with fail
    refine wp_region_held_drew (S := fun _ => True) (by kernel_rfl) trivial (fun _ => ?_)
    refine wpAnyH_take (i := 0) (v := ?v0_27) rfl (by kernel_rfl) (by kernel_rfl) (by kernel_rfl) (fun _ _ _ h => h) (Or.inl (And.intro (by kernel_rfl) ?q0_27)) trivial ?r0_27; (case q0_27 => (intro w _; (try dsimp only); (try go_simp); (try with_reducible rfl)))
    try simp only [Act.put, List.setIfInBounds_toArray, List.set_cons_zero, List.set_cons_succ, List.getElem_toArray, List.getElem_cons_succ, List.getElem_cons_zero]
    refine wpAnyH_take (i := 1) (v := ?v1_28) rfl (by kernel_rfl) (by kernel_rfl) (by kernel_rfl) (fun _ _ _ h => h) (Or.inl (And.intro (by kernel_rfl) ?q1_28)) trivial ?r1_28; (case q1_28 => (intro w _; (try dsimp only); (try go_simp); (try with_reducible rfl)))
    try simp only [Act.put, List.setIfInBounds_toArray, List.set_cons_zero, List.set_cons_succ, List.getElem_toArray, List.getElem_cons_succ, List.getElem_cons_zero]
    refine wpAnyH_take (i := 2) (v := undef) rfl (by kernel_rfl) (by kernel_rfl) (by kernel_rfl) (fun _ _ _ h => h) (Or.inr (And.intro (by kernel_rfl) rfl)) trivial ?r2_29
    try simp only [Act.put, List.setIfInBounds_toArray, List.set_cons_zero, List.set_cons_succ, List.getElem_toArray, List.getElem_cons_succ, List.getElem_cons_zero]
    refine wpAnyH_take (i := 3) (v := undef) rfl (by kernel_rfl) (by kernel_rfl) (by kernel_rfl) (fun _ _ _ h => h) (Or.inr (And.intro (by kernel_rfl) rfl)) trivial ?r3_30
    try simp only [Act.put, List.setIfInBounds_toArray, List.set_cons_zero, List.set_cons_succ, List.getElem_toArray, List.getElem_cons_succ, List.getElem_cons_zero]
    refine wpAnyH_take (i := 4) (v := undef) rfl (by kernel_rfl) (by kernel_rfl) (by kernel_rfl) (fun _ _ _ h => h) (Or.inr (And.intro (by kernel_rfl) rfl)) trivial ?r4_31
    try simp only [Act.put, List.setIfInBounds_toArray, List.set_cons_zero, List.set_cons_succ, List.getElem_toArray, List.getElem_cons_succ, List.getElem_cons_zero]
    refine wpAnyH_take (i := 5) (v := undef) rfl (by kernel_rfl) (by kernel_rfl) (by kernel_rfl) (fun _ _ _ h => h) (Or.inr (And.intro (by kernel_rfl) rfl)) trivial ?r5_32
    try simp only [Act.put, List.setIfInBounds_toArray, List.set_cons_zero, List.set_cons_succ, List.getElem_toArray, List.getElem_cons_succ, List.getElem_cons_zero]
    refine wpAnyH_take (i := 6) (v := undef) rfl (by kernel_rfl) (by kernel_rfl) (by kernel_rfl) (fun _ _ _ h => h) (Or.inr (And.intro (by kernel_rfl) rfl)) trivial ?r6_33
    try simp only [Act.put, List.setIfInBounds_toArray, List.set_cons_zero, List.set_cons_succ, List.getElem_toArray, List.getElem_cons_succ, List.getElem_cons_zero]
    refine wpAnyH_take (i := 7) (v := ?v7_34) rfl (by kernel_rfl) (by kernel_rfl) (by kernel_rfl) (fun _ _ _ h => h) (Or.inl (And.intro (by kernel_rfl) ?q7_34)) trivial ?r7_34; (case q7_34 => (intro w _; (try dsimp only); (try go_simp); (try with_reducible rfl)))
    try simp only [Act.put, List.setIfInBounds_toArray, List.set_cons_zero, List.set_cons_succ, List.getElem_toArray, List.getElem_cons_succ, List.getElem_cons_zero]
    refine wpAnyH_take (i := 8) (v := ?v8_35) rfl (by kernel_rfl) (by kernel_rfl) (by kernel_rfl) (fun _ _ _ h => h) (Or.inl (And.intro (by kernel_rfl) ?q8_35)) trivial ?r8_35; (case q8_35 => (intro w _; (try dsimp only); (try go_simp); (try with_reducible rfl)))
    try simp only [Act.put, List.setIfInBounds_toArray, List.set_cons_zero, List.set_cons_succ, List.getElem_toArray, List.getElem_cons_succ, List.getElem_cons_zero]
    refine wpAnyH_take (i := 9) (v := ?v9_36) rfl (by kernel_rfl) (by kernel_rfl) (by kernel_rfl) (fun _ _ _ h => h) (Or.inl (And.intro (by kernel_rfl) ?q9_36)) trivial ?r9_36; (case q9_36 => (intro w _; (try dsimp only); (try go_simp); (try with_reducible rfl)))
    try simp only [Act.put, List.setIfInBounds_toArray, List.set_cons_zero, List.set_cons_succ, List.getElem_toArray, List.getElem_cons_succ, List.getElem_cons_zero]
    refine wpAnyH_take (i := 10) (v := ?v10_37) rfl (by kernel_rfl) (by kernel_rfl) (by kernel_rfl) (fun _ _ _ h => h) (Or.inl (And.intro (by kernel_rfl) ?q10_37)) trivial ?r10_37; (case q10_37 => (intro w _; (try dsimp only); (try go_simp); (try with_reducible rfl)))
    try simp only [Act.put, List.setIfInBounds_toArray, List.set_cons_zero, List.set_cons_succ, List.getElem_toArray, List.getElem_cons_succ, List.getElem_cons_zero]
    refine wpAnyH_take (i := 11) (v := ?v11_38) rfl (by kernel_rfl) (by kernel_rfl) (by kernel_rfl) (fun _ _ _ h => h) (Or.inl (And.intro (by kernel_rfl) ?q11_38)) trivial ?r11_38; (case q11_38 => (intro w _; (try dsimp only); (try go_simp); (try with_reducible rfl)))
    try simp only [Act.put, List.setIfInBounds_toArray, List.set_cons_zero, List.set_cons_succ, List.getElem_toArray, List.getElem_cons_succ, List.getElem_cons_zero]
    refine wpAnyH_take (i := 12) (v := ?v12_39) rfl (by kernel_rfl) (by kernel_rfl) (by kernel_rfl) (fun _ _ _ h => h) (Or.inl (And.intro (by kernel_rfl) ?q12_39)) trivial ?r12_39; (case q12_39 => (intro w _; (try dsimp only); (try go_simp); (try with_reducible rfl)))
    try simp only [Act.put, List.setIfInBounds_toArray, List.set_cons_zero, List.set_cons_succ, List.getElem_toArray, List.getElem_cons_succ, List.getElem_cons_zero]
    refine wpAnyH_take (i := 13) (v := ?v13_40) rfl (by kernel_rfl) (by kernel_rfl) (by kernel_rfl) (fun _ _ _ h => h) (Or.inl (And.intro (by kernel_rfl) ?q13_40)) trivial ?r13_40; (case q13_40 => (intro w _; (try dsimp only); (try go_simp); (try with_reducible rfl)))
    try simp only [Act.put, List.setIfInBounds_toArray, List.set_cons_zero, List.set_cons_succ, List.getElem_toArray, List.getElem_cons_succ, List.getElem_cons_zero]
    refine wpAnyH_take (i := 14) (v := ?v14_41) rfl (by kernel_rfl) (by kernel_rfl) (by kernel_rfl) (fun _ _ _ h => h) (Or.inl (And.intro (by kernel_rfl) ?q14_41)) trivial ?r14_41; (case q14_41 => (intro w _; (try dsimp only); (try go_simp); (try with_reducible rfl)))
    try simp only [Act.put, List.setIfInBounds_toArray, List.set_cons_zero, List.set_cons_succ, List.getElem_toArray, List.getElem_cons_succ, List.getElem_cons_zero]
    refine wpAnyH_take (i := 15) (v := ?v15_42) rfl (by kernel_rfl) (by kernel_rfl) (by kernel_rfl) (fun _ _ _ h => h) (Or.inl (And.intro (by kernel_rfl) ?q15_42)) trivial ?r15_42; (case q15_42 => (intro w _; (try dsimp only); (try go_simp); (try with_reducible rfl)))
    try simp only [Act.put, List.setIfInBounds_toArray, List.set_cons_zero, List.set_cons_succ, List.getElem_toArray, List.getElem_cons_succ, List.getElem_cons_zero]
    refine wpAnyH_take (i := 16) (v := ?v16_43) rfl (by kernel_rfl) (by kernel_rfl) (by kernel_rfl) (fun _ _ _ h => h) (Or.inl (And.intro (by kernel_rfl) ?q16_43)) trivial ?r16_43; (case q16_43 => (intro w _; (try dsimp only); (try go_simp); (try with_reducible rfl)))
    try simp only [Act.put, List.setIfInBounds_toArray, List.set_cons_zero, List.set_cons_succ, List.getElem_toArray, List.getElem_cons_succ, List.getElem_cons_zero]
    refine wpAnyH_take (i := 17) (v := ?v17_44) rfl (by kernel_rfl) (by kernel_rfl) (by kernel_rfl) (fun _ _ _ h => h) (Or.inl (And.intro (by kernel_rfl) ?q17_44)) trivial ?r17_44; (case q17_44 => (intro w _; (try dsimp only); (try go_simp); (try with_reducible rfl)))
    try simp only [Act.put, List.setIfInBounds_toArray, List.set_cons_zero, List.set_cons_succ, List.getElem_toArray, List.getElem_cons_succ, List.getElem_cons_zero]
    refine wpAnyH_take (i := 18) (v := ?v18_45) rfl (by kernel_rfl) (by kernel_rfl) (by kernel_rfl) (fun _ _ _ h => h) (Or.inl (And.intro (by kernel_rfl) ?q18_45)) trivial ?r18_45; (case q18_45 => (intro w _; (try dsimp only); (try go_simp); (try with_reducible rfl)))
    try simp only [Act.put, List.setIfInBounds_toArray, List.set_cons_zero, List.set_cons_succ, List.getElem_toArray, List.getElem_cons_succ, List.getElem_cons_zero]
    refine wpAnyH_take (i := 19) (v := ?v19_46) rfl (by kernel_rfl) (by kernel_rfl) (by kernel_rfl) (fun _ _ _ h => h) (Or.inl (And.intro (by kernel_rfl) ?q19_46)) trivial ?r19_46; (case q19_46 => (intro w _; (try dsimp only); (try go_simp); (try with_reducible rfl)))
    try simp only [Act.put, List.setIfInBounds_toArray, List.set_cons_zero, List.set_cons_succ, List.getElem_toArray, List.getElem_cons_succ, List.getElem_cons_zero]
    refine wpAnyH_take (i := 20) (v := ?v20_47) rfl (by kernel_rfl) (by kernel_rfl) (by kernel_rfl) (fun _ _ _ h => h) (Or.inl (And.intro (by kernel_rfl) ?q20_47)) trivial ?r20_47; (case q20_47 => (intro w _; (try dsimp only); (try go_simp); (try with_reducible rfl)))
    try simp only [Act.put, List.setIfInBounds_toArray, List.set_cons_zero, List.set_cons_succ, List.getElem_toArray, List.getElem_cons_succ, List.getElem_cons_zero]
    refine wpAnyH_take (i := 21) (v := ?v21_48) rfl (by kernel_rfl) (by kernel_rfl) (by kernel_rfl) (fun _ _ _ h => h) (Or.inl (And.intro (by kernel_rfl) ?q21_48)) trivial ?r21_48; (case q21_48 => (intro w _; (try dsimp only); (try go_simp); (try with_reducible rfl)))
    try simp only [Act.put, List.setIfInBounds_toArray, List.set_cons_zero, List.set_cons_succ, List.getElem_toArray, List.getElem_cons_succ, List.getElem_cons_zero]
    refine wpAnyH_take (i := 22) (v := ?v22_49) rfl (by kernel_rfl) (by kernel_rfl) (by kernel_rfl) (fun _ _ _ h => h) (Or.inl (And.intro (by kernel_rfl) ?q22_49)) trivial ?r22_49; (case q22_49 => (intro w _; (try dsimp only); (try go_simp); (try with_reducible rfl)))
    try simp only [Act.put, List.setIfInBounds_toArray, List.set_cons_zero, List.set_cons_succ, List.getElem_toArray, List.getElem_cons_succ, List.getElem_cons_zero]
    refine wpAnyH_ready (rs := [23]) (by kernel_rfl) (by simp) ?_
    refine AllReadyH.cons rfl (fun K hK => ?_) AllReadyH.nil
    rw [if_pos (by kernel_rfl)]
    (try simp only [List.getElem_toArray, List.getElem_cons_succ, List.getElem_cons_zero])
    go_simp
    (with_reducible refine (C0.out _ (KK.out.below (by (repeat' (first | with_reducible exact b10 | with_reducible exact Below.refl _ _ | with_reducible refine Below.setCell ?_ (by first | exact Nat.le_refl _ | (dsimp only; omega)) _ | with_reducible refine bstep ?_ (fresh_below _ _) | with_reducible refine Below.drew ?_))))).mono ?_)
    rintro e wJ23 ⟨rfl, bJ23⟩
    replace bJ23 : Below w.heap.size w wJ23 := by (refine bstep ?_ bJ23); (repeat' (first | with_reducible exact b10 | with_reducible exact Below.refl _ _ | with_reducible refine Below.setCell ?_ (by first | exact Nat.le_refl _ | (dsimp only; omega)) _ | with_reducible refine bstep ?_ (fresh_below _ _) | with_reducible refine Below.drew ?_))
    try go_wp2_with fail
    refine hK.out _ _ trivial (fun _ => ?_)
    clear hK K
    try simp only [Act.put, List.setIfInBounds_toArray, List.set_cons_zero, List.set_cons_succ, List.getElem_toArray, List.getElem_cons_succ, List.getElem_cons_zero]
    refine wpAnyH_take (i := 24) (v := ?v24_51) rfl (by kernel_rfl) (by kernel_rfl) (by kernel_rfl) (fun _ _ _ h => h) (Or.inl (And.intro (by kernel_rfl) ?q24_51)) trivial ?r24_51; (case q24_51 => (intro w _; (try dsimp only); (try go_simp); (try with_reducible rfl)))
    try simp only [Act.put, List.setIfInBounds_toArray, List.set_cons_zero, List.set_cons_succ, List.getElem_toArray, List.getElem_cons_succ, List.getElem_cons_zero]
    refine wpAnyH_take (i := 25) (v := ?v25_52) rfl (by kernel_rfl) (by kernel_rfl) (by kernel_rfl) (fun _ _ _ h => h) (Or.inl (And.intro (by kernel_rfl) ?q25_52)) trivial ?r25_52; (case q25_52 => (intro w _; (try dsimp only); (try go_simp); (try with_reducible rfl)))
    try simp only [Act.put, List.setIfInBounds_toArray, List.set_cons_zero, List.set_cons_succ, List.getElem_toArray, List.getElem_cons_succ, List.getElem_cons_zero]
    refine wpAnyH_done (by kernel_rfl) ?_ _
    go_wp2
    go_ret
    exact ⟨rfl, (by (repeat' (first | with_reducible exact bJ23 | with_reducible exact Below.refl _ _ | with_reducible refine Below.setCell ?_ (by first | exact Nat.le_refl _ | (dsimp only; omega)) _ | with_reducible refine bstep ?_ (fresh_below _ _) | with_reducible refine Below.drew ?_)))⟩

set_option maxRecDepth 100000 in
set_option maxHeartbeats 8000000 in
theorem IcmpID_sC (s v t tv tt : ByteArray) (id : Int) (w : World) (K0 : Kinds w) (h8 : 8 ≤ s.size) (h6 : s.size ≤ 600) (x1 x2 x3 y1 y2 y3 q u : Int) (x4 x5 y4 y5 : ByteArray) (b : Bool)
    (hv : v.size = s.size) (p1 : ∀ w, Calls Tryd.prog 11 #[.string s] w (Ret (.string v) w))
    (p2 : ∀ w, Calls Tryd.prog 13 #[.string v] w (Ret (.tuple #[.agg #[.int .u8 x1, .int .u8 x2, .int .u16 x3, .string x4, .string x5], .bool true]) w))
    (p3 : ∀ w, Calls Tryd.prog 23 #[.agg #[.int .u8 x1, .int .u8 x2, .int .u16 x3, .string x4, .string x5], .int .u16 id] w (Ret (.agg #[.int .u8 y1, .int .u8 y2, .int .u16 y3, .string y4, .string y5]) w))
    (p4 : ∀ w, Calls Tryd.prog 21 #[.agg #[.int .u8 x1, .int .u8 x2, .int .u16 x3, .string x4, .string x5]] w (Ret (.int .u16 q) w))
    (p5 : ∀ w, Calls Tryd.prog 25 #[.int .u16 x3, .int .u16 q, .int .u16 id] w (Ret (.int .u16 u) w))
    (p6 : ∀ w, Calls Tryd.prog 15 #[.agg #[.int .u8 y1, .int .u8 y2, .int .u16 u, .string y4, .string y5]] w (Ret (.tuple #[.string t, .int .i64 0]) w))
    (p7 : ∀ w, Calls Tryd.prog 26 #[.string v, .string { data := #[0] }] w (Ret (.string tv) w))
    (p8 : ∀ w, Calls Tryd.prog 26 #[.string t, .string { data := #[0] }] w (Ret (.string tt) w))
    (p9 : ∀ w, Calls Tryd.prog 9 #[.string t] w (Ret (.bool b) w))
    (p10 : ∀ w, Calls Tryd.prog 9 #[.string v] w (Ret (.bool b) w))
    (hz : t.size = s.size) (q6 : ((t.extract 6 s.size).toList == (v.extract 6 s.size).toList) = true)
    (hk : (tv.toList == []) = false ∧ (tt.toList == []) = false) :
    Calls Tryd.prog 7 #[.string s, .bool true, .int .u16 id] w (Ret (.bool true) w) := by
  have c0 := fun w k => echoed w k
  have KK := hide K0; have C0 := hide c0; have P1 := hide p1; have P2 := hide p2; have P3 := hide p3; have P4 := hide p4; have P5 := hide p5; have P6 := hide p6; have P7 := hide p7; have P8 := hide p8; have P9 := hide p9; have P10 := hide p10
  clear K0 c0 p1 p2 p3 p4 p5 p6 p7 p8 p9 p10
  have m1 : ¬ (s.size : Int) < 8 := by omega
  have m2 : ¬ 600 < (s.size : Int) := by omega
  have m3 : (6 : Int) ≤ (s.size : Int) := by omega
  have qb : (b == b) = true := by simp
  obtain ⟨k1, k2⟩ := hk
  go_enter Tryd.func7, Tryd.ntmps7
  go_wp2_with fail
  (with_reducible refine (P1.out _).mono ?_)
  rintro e w1 ⟨rfl, b1⟩
  replace b1 : Below w.heap.size w w1 := by (refine bstep ?_ b1); (repeat' (first | with_reducible exact Below.refl _ _ | with_reducible refine Below.setCell ?_ (by first | exact Nat.le_refl _ | (dsimp only; omega)) _ | with_reducible refine bstep ?_ (fresh_below _ _) | with_reducible refine Below.drew ?_))
  have z1 : w.heap.size ≤ w1.heap.size := b1.size
  go_wp2_with fail
  (with_reducible refine (P2.out _).mono ?_)
  rintro e w2 ⟨rfl, b2⟩
  replace b2 : Below w.heap.size w w2 := by (refine bstep ?_ b2); (repeat' (first | with_reducible exact b1 | with_reducible exact Below.refl _ _ | with_reducible refine Below.setCell ?_ (by first | exact Nat.le_refl _ | (dsimp only; omega)) _ | with_reducible refine bstep ?_ (fresh_below _ _) | with_reducible refine Below.drew ?_))
  have z2 : w.heap.size ≤ w2.heap.size := b2.size
  have dm := Cells.new w2 #[.int .u8 x1, .int .u8 x2, .int .u16 x3, .string x4, .string x5] 29
  have dx := dm
  have xdx_0 : (w2.alloc (.cells #[.int .u8 x1, .int .u8 x2, .int .u16 x3, .string x4, .string x5] 29)).cell? ⟨w2.heap.size, 0, none⟩ = some (.int .u8 x1) := dx.at_ 0
  have xdx_1 : (w2.alloc (.cells #[.int .u8 x1, .int .u8 x2, .int .u16 x3, .string x4, .string x5] 29)).cell? ⟨w2.heap.size, 1, none⟩ = some (.int .u8 x2) := dx.at_ 1
  have xdx_2 : (w2.alloc (.cells #[.int .u8 x1, .int .u8 x2, .int .u16 x3, .string x4, .string x5] 29)).cell? ⟨w2.heap.size, 2, none⟩ = some (.int .u16 x3) := dx.at_ 2
  have xdx_3 : (w2.alloc (.cells #[.int .u8 x1, .int .u8 x2, .int .u16 x3, .string x4, .string x5] 29)).cell? ⟨w2.heap.size, 3, none⟩ = some (.string x4) := dx.at_ 3
  have xdx_4 : (w2.alloc (.cells #[.int .u8 x1, .int .u8 x2, .int .u16 x3, .string x4, .string x5] 29)).cell? ⟨w2.heap.size, 4, none⟩ = some (.string x5) := dx.at_ 4
  go_wp2_with fail
  (with_reducible refine (P3.out _).mono ?_)
  rintro e w3 ⟨rfl, b3⟩
  replace dm := Cells.up dm (by (repeat' (first | with_reducible exact Below.refl _ _ | with_reducible refine bstep ?_ (fresh_below _ _) | with_reducible refine Below.drew ?_))) b3
  replace b3 : Below w.heap.size w w3 := by (refine bstep ?_ b3); (repeat' (first | with_reducible exact b2 | with_reducible exact Below.refl _ _ | with_reducible refine Below.setCell ?_ (by first | exact Nat.le_refl _ | (dsimp only; omega)) _ | with_reducible refine bstep ?_ (fresh_below _ _) | with_reducible refine Below.drew ?_))
  have z3 : w.heap.size ≤ w3.heap.size := b3.size
  have nlt : w2.heap.size < w3.heap.size := dm.lt
  replace dm := Cells.below (fresh_below w3 (.cells #[.int .u8 y1, .int .u8 y2, .int .u16 y3, .string y4, .string y5] 29)) dm
  have dn := Cells.new w3 #[.int .u8 y1, .int .u8 y2, .int .u16 y3, .string y4, .string y5] 29
  have b4 : Below w.heap.size w (w3.alloc (.cells #[.int .u8 y1, .int .u8 y2, .int .u16 y3, .string y4, .string y5] 29)) := bstep b3 (fresh_below _ _)
  have n1 : w2.heap.size ≠ w3.heap.size := Nat.ne_of_lt nlt
  go_wp2_with fail
  generalize w3.alloc (.cells #[.int .u8 y1, .int .u8 y2, .int .u16 y3, .string y4, .string y5] 29) = W at *
  have fS := hide (fun (zX : World) (hX : Cells zX w2.heap.size #[.int .u8 x1, .int .u8 x2, .int .u16 x3, .string x4, .string x5] 29) => (show World.cell? zX ⟨w2.heap.size, 0, none⟩ = some (.int .u8 x1) ∧ World.cell? zX ⟨w2.heap.size, 1, none⟩ = some (.int .u8 x2) ∧ World.cell? zX ⟨w2.heap.size, 2, none⟩ = some (.int .u16 x3) ∧ World.cell? zX ⟨w2.heap.size, 3, none⟩ = some (.string x4) ∧ World.cell? zX ⟨w2.heap.size, 4, none⟩ = some (.string x5) from ⟨hX.at_ 0, hX.at_ 1, hX.at_ 2, hX.at_ 3, hX.at_ 4⟩))
  have HM := hide dm
  go_region_held3 (fun zW => World.cell? zW ⟨w2.heap.size, 0, none⟩ = some (.int .u8 x1) ∧ World.cell? zW ⟨w2.heap.size, 1, none⟩ = some (.int .u8 x2) ∧ World.cell? zW ⟨w2.heap.size, 2, none⟩ = some (.int .u16 x3) ∧ World.cell? zW ⟨w2.heap.size, 3, none⟩ = some (.string x4) ∧ World.cell? zW ⟨w2.heap.size, 4, none⟩ = some (.string x5)) (((try dsimp only); with_reducible refine fS.out _ ?_; (repeat' (first | with_reducible exact HM.out | with_reducible assumption | with_reducible refine Cells.drew ?_ | with_reducible refine Cells.other ?_ n1 _ _))))
    (first | (go_at_call 21; (with_reducible refine (P4.out _).mono ?_); rintro e wa ⟨rfl, ba⟩; have Da : Cells wa w2.heap.size #[.int .u8 x1, .int .u8 x2, .int .u16 x3, .string x4, .string x5] 29 := Cells.below ba dm; have Ea : Cells wa w3.heap.size #[.int .u8 y1, .int .u8 y2, .int .u16 y3, .string y4, .string y5] 29 := Cells.below ba dn) | (go_at_call 25; (with_reducible refine (P5.out _).mono ?_); rintro e wb ⟨rfl, bb⟩; have Db := Cells.below bb Da; have Eb := Cells.below bb Ea; have E0 : wb.cell? ⟨w3.heap.size, 2, none⟩ = some (.int .u16 y3) := Eb.at_ 2; have E1 := Eb.free 2))
  all_goals
    have b5 : Below w.heap.size w wb := bstep (bstep b4.drew ba) bb
    have d7 : Cells (wb.setCell ⟨w3.heap.size, 2, none⟩ (.int .u16 u)) w3.heap.size #[.int .u8 y1, .int .u8 y2, .int .u16 u, .string y4, .string y5] 29 := Eb.set_ 2 (.int .u16 u)
    have b7 : Below w.heap.size w (wb.setCell ⟨w3.heap.size, 2, none⟩ (.int .u16 u)) := Below.setCell b5 (p := ⟨w3.heap.size, 2, none⟩) b3.size _
    clear Da Ea Db Eb E0 E1 ba bb b5
    generalize (wb.setCell ⟨w3.heap.size, 2, none⟩ (.int .u16 u)) = W7 at *
    have xd7_0 : W7.cell? ⟨w3.heap.size, 0, none⟩ = some (.int .u8 y1) := d7.at_ 0
    have xd7_1 : W7.cell? ⟨w3.heap.size, 1, none⟩ = some (.int .u8 y2) := d7.at_ 1
    have xd7_2 : W7.cell? ⟨w3.heap.size, 2, none⟩ = some (.int .u16 u) := d7.at_ 2
    have xd7_3 : W7.cell? ⟨w3.heap.size, 3, none⟩ = some (.string y4) := d7.at_ 3
    have xd7_4 : W7.cell? ⟨w3.heap.size, 4, none⟩ = some (.string y5) := d7.at_ 4
    go_wp2_with fail
    (with_reducible refine (P6.out _).mono ?_)
    rintro e w8 ⟨rfl, b8⟩
    replace b8 : Below w.heap.size w w8 := bstep b7 b8
    have z8 : w.heap.size ≤ w8.heap.size := b8.size
    clear xd7_0 xd7_1 xd7_2 xd7_3 xd7_4 d7
    go_wp2_with fail
    (with_reducible refine (P7.out _).mono ?_)
    rintro e w9 ⟨rfl, b9⟩
    replace b9 : Below w.heap.size w w9 := by (refine bstep ?_ b9); (repeat' (first | with_reducible exact b8 | with_reducible exact Below.refl _ _ | with_reducible refine Below.setCell ?_ (by first | exact Nat.le_refl _ | (dsimp only; omega)) _ | with_reducible refine bstep ?_ (fresh_below _ _) | with_reducible refine Below.drew ?_))
    have z9 : w.heap.size ≤ w9.heap.size := b9.size
    go_wp2_with fail
    (with_reducible refine (P8.out _).mono ?_)
    rintro e w10 ⟨rfl, b10⟩
    replace b10 : Below w.heap.size w w10 := by (refine bstep ?_ b10); (repeat' (first | with_reducible exact b9 | with_reducible exact Below.refl _ _ | with_reducible refine Below.setCell ?_ (by first | exact Nat.le_refl _ | (dsimp only; omega)) _ | with_reducible refine bstep ?_ (fresh_below _ _) | with_reducible refine Below.drew ?_))
    have z10 : w.heap.size ≤ w10.heap.size := b10.size
    go_wp2_with fail
    refine wp_region_held_drew (S := fun _ => True) (by kernel_rfl) trivial (fun _ => ?_)
    refine wpAnyH_take (i := 0) (v := ?v0_53) rfl (by kernel_rfl) (by kernel_rfl) (by kernel_rfl) (fun _ _ _ h => h) (Or.inl (And.intro (by kernel_rfl) ?q0_53)) trivial ?r0_53; (case q0_53 => (intro w _; (try dsimp only); (try go_simp); (try with_reducible rfl)))
    try simp only [Act.put, List.setIfInBounds_toArray, List.set_cons_zero, List.set_cons_succ, List.getElem_toArray, List.getElem_cons_succ, List.getElem_cons_zero]
    refine wpAnyH_take (i := 1) (v := ?v1_54) rfl (by kernel_rfl) (by kernel_rfl) (by kernel_rfl) (fun _ _ _ h => h) (Or.inl (And.intro (by kernel_rfl) ?q1_54)) trivial ?r1_54; (case q1_54 => (intro w _; (try dsimp only); (try go_simp); (try with_reducible rfl)))
    try simp only [Act.put, List.setIfInBounds_toArray, List.set_cons_zero, List.set_cons_succ, List.getElem_toArray, List.getElem_cons_succ, List.getElem_cons_zero]
    refine wpAnyH_take (i := 2) (v := ?v2_55) rfl (by kernel_rfl) (by kernel_rfl) (by kernel_rfl) (fun _ _ _ h => h) (Or.inl (And.intro (by kernel_rfl) ?q2_55)) trivial ?r2_55; (case q2_55 => (intro w _; (try dsimp only); (try go_simp); (try with_reducible rfl)))
    try simp only [Act.put, List.setIfInBounds_toArray, List.set_cons_zero, List.set_cons_succ, List.getElem_toArray, List.getElem_cons_succ, List.getElem_cons_zero]
    refine wpAnyH_take (i := 4) (v := ?v4_56) rfl (by kernel_rfl) (by kernel_rfl) (by kernel_rfl) (fun _ _ _ h => h) (Or.inl (And.intro (by kernel_rfl) ?q4_56)) trivial ?r4_56; (case q4_56 => (intro w _; (try dsimp only); (try go_simp); (try with_reducible rfl)))
    try simp only [Act.put, List.setIfInBounds_toArray, List.set_cons_zero, List.set_cons_succ, List.getElem_toArray, List.getElem_cons_succ, List.getElem_cons_zero]
    refine wpAnyH_ready (rs := [3]) (by kernel_rfl) (by simp) ?_
    refine AllReadyH.cons rfl (fun K hK => ?_) AllReadyH.nil
    rw [if_pos (by kernel_rfl)]
    (try simp only [List.getElem_toArray, List.getElem_cons_succ, List.getElem_cons_zero])
    go_simp
    (with_reducible refine (P9.out _).mono ?_)
    rintro e wJ3 ⟨rfl, bJ3⟩
    replace bJ3 : Below w.heap.size w wJ3 := by (refine bstep ?_ bJ3); (repeat' (first | with_reducible exact b10 | with_reducible exact Below.refl _ _ | with_reducible refine Below.setCell ?_ (by first | exact Nat.le_refl _ | (dsimp only; omega)) _ | with_reducible refine bstep ?_ (fresh_below _ _) | with_reducible refine Below.drew ?_))
    try go_wp2_with fail
    refine hK.out _ _ trivial (fun _ => ?_)
    clear hK K
    try simp only [Act.put, List.setIfInBounds_toArray, List.set_cons_zero, List.set_cons_succ, List.getElem_toArray, List.getElem_cons_succ, List.getElem_cons_zero]
    refine wpAnyH_ready (rs := [5]) (by kernel_rfl) (by simp) ?_
    refine AllReadyH.cons rfl (fun K hK => ?_) AllReadyH.nil
    rw [if_pos (by kernel_rfl)]
    (try simp only [List.getElem_toArray, List.getElem_cons_succ, List.getElem_cons_zero])
    go_simp
    (with_reducible refine (P10.out _).mono ?_)
    rintro e wJ5 ⟨rfl, bJ5⟩
    replace bJ5 : Below w.heap.size w wJ5 := by (refine bstep ?_ bJ5); (repeat' (first | with_reducible exact bJ3 | with_reducible exact Below.refl _ _ | with_reducible refine Below.setCell ?_ (by first | exact Nat.le_refl _ | (dsimp only; omega)) _ | with_reducible refine bstep ?_ (fresh_below _ _) | with_reducible refine Below.drew ?_))
    try go_wp2_with fail
    refine hK.out _ _ trivial (fun _ => ?_)
    clear hK K
    try simp only [Act.put, List.setIfInBounds_toArray, List.set_cons_zero, List.set_cons_succ, List.getElem_toArray, List.getElem_cons_succ, List.getElem_cons_zero]
    refine wpAnyH_take (i := 6) (v := ?v6_59) rfl (by kernel_rfl) (by kernel_rfl) (by kernel_rfl) (fun _ _ _ h => h) (Or.inl (And.intro (by kernel_rfl) ?q6_59)) trivial ?r6_59; (case q6_59 => (intro w _; (try dsimp only); (try go_simp); (try with_reducible rfl)))
    try simp only [Act.put, List.setIfInBounds_toArray, List.set_cons_zero, List.set_cons_succ, List.getElem_toArray, List.getElem_cons_succ, List.getElem_cons_zero]
    refine wpAnyH_take (i := 7) (v := ?v7_60) rfl (by kernel_rfl) (by kernel_rfl) (by kernel_rfl) (fun _ _ _ h => h) (Or.inl (And.intro (by kernel_rfl) ?q7_60)) trivial ?r7_60; (case q7_60 => (intro w _; (try dsimp only); (try go_simp); (try with_reducible rfl)))
    try simp only [Act.put, List.setIfInBounds_toArray, List.set_cons_zero, List.set_cons_succ, List.getElem_toArray, List.getElem_cons_succ, List.getElem_cons_zero]
    refine wpAnyH_take (i := 8) (v := ?v8_61) rfl (by kernel_rfl) (by kernel_rfl) (by kernel_rfl) (fun _ _ _ h => h) (Or.inl (And.intro (by kernel_rfl) ?q8_61)) trivial ?r8_61; (case q8_61 => (intro w _; (try dsimp only); (try go_simp); (try with_reducible rfl)))
    try simp only [Act.put, List.setIfInBounds_toArray, List.set_cons_zero, List.set_cons_succ, List.getElem_toArray, List.getElem_cons_succ, List.getElem_cons_zero]
    refine wpAnyH_take (i := 9) (v := ?v9_62) rfl (by kernel_rfl) (by kernel_rfl) (by kernel_rfl) (fun _ _ _ h => h) (Or.inl (And.intro (by kernel_rfl) ?q9_62)) trivial ?r9_62; (case q9_62 => (intro w _; (try dsimp only); (try go_simp); (try with_reducible rfl)))
    try simp only [Act.put, List.setIfInBounds_toArray, List.set_cons_zero, List.set_cons_succ, List.getElem_toArray, List.getElem_cons_succ, List.getElem_cons_zero]
    refine wpAnyH_take (i := 10) (v := ?v10_63) rfl (by kernel_rfl) (by kernel_rfl) (by kernel_rfl) (fun _ _ _ h => h) (Or.inl (And.intro (by kernel_rfl) ?q10_63)) trivial ?r10_63; (case q10_63 => (intro w _; (try dsimp only); (try go_simp); (try with_reducible rfl)))
    try simp only [Act.put, List.setIfInBounds_toArray, List.set_cons_zero, List.set_cons_succ, List.getElem_toArray, List.getElem_cons_succ, List.getElem_cons_zero]
    refine wpAnyH_take (i := 11) (v := ?v11_64) rfl (by kernel_rfl) (by kernel_rfl) (by kernel_rfl) (fun _ _ _ h => h) (Or.inl (And.intro (by kernel_rfl) ?q11_64)) trivial ?r11_64; (case q11_64 => (intro w _; (try dsimp only); (try go_simp); (try with_reducible rfl)))
    try simp only [Act.put, List.setIfInBounds_toArray, List.set_cons_zero, List.set_cons_succ, List.getElem_toArray, List.getElem_cons_succ, List.getElem_cons_zero]
    refine wpAnyH_take (i := 12) (v := ?v12_65) rfl (by kernel_rfl) (by kernel_rfl) (by kernel_rfl) (fun _ _ _ h => h) (Or.inl (And.intro (by kernel_rfl) ?q12_65)) trivial ?r12_65; (case q12_65 => (intro w _; (try dsimp only); (try go_simp); (try with_reducible rfl)))
    try simp only [Act.put, List.setIfInBounds_toArray, List.set_cons_zero, List.set_cons_succ, List.getElem_toArray, List.getElem_cons_succ, List.getElem_cons_zero]
    refine wpAnyH_take (i := 13) (v := ?v13_66) rfl (by kernel_rfl) (by kernel_rfl) (by kernel_rfl) (fun _ _ _ h => h) (Or.inl (And.intro (by kernel_rfl) ?q13_66)) trivial ?r13_66; (case q13_66 => (intro w _; (try dsimp only); (try go_simp); (try with_reducible rfl)))
    try simp only [Act.put, List.setIfInBounds_toArray, List.set_cons_zero, List.set_cons_succ, List.getElem_toArray, List.getElem_cons_succ, List.getElem_cons_zero]
    refine wpAnyH_take (i := 14) (v := ?v14_67) rfl (by kernel_rfl) (by kernel_rfl) (by kernel_rfl) (fun _ _ _ h => h) (Or.inl (And.intro (by kernel_rfl) ?q14_67)) trivial ?r14_67; (case q14_67 => (intro w _; (try dsimp only); (try go_simp); (try with_reducible rfl)))
    try simp only [Act.put, List.setIfInBounds_toArray, List.set_cons_zero, List.set_cons_succ, List.getElem_toArray, List.getElem_cons_succ, List.getElem_cons_zero]
    refine wpAnyH_take (i := 15) (v := ?v15_68) rfl (by kernel_rfl) (by kernel_rfl) (by kernel_rfl) (fun _ _ _ h => h) (Or.inl (And.intro (by kernel_rfl) ?q15_68)) trivial ?r15_68; (case q15_68 => (intro w _; (try dsimp only); (try go_simp); (try with_reducible rfl)))
    try simp only [Act.put, List.setIfInBounds_toArray, List.set_cons_zero, List.set_cons_succ, List.getElem_toArray, List.getElem_cons_succ, List.getElem_cons_zero]
    refine wpAnyH_take (i := 16) (v := ?v16_69) rfl (by kernel_rfl) (by kernel_rfl) (by kernel_rfl) (fun _ _ _ h => h) (Or.inl (And.intro (by kernel_rfl) ?q16_69)) trivial ?r16_69; (case q16_69 => (intro w _; (try dsimp only); (try go_simp); (try with_reducible rfl)))
    try simp only [Act.put, List.setIfInBounds_toArray, List.set_cons_zero, List.set_cons_succ, List.getElem_toArray, List.getElem_cons_succ, List.getElem_cons_zero]
    refine wpAnyH_take (i := 17) (v := ?v17_70) rfl (by kernel_rfl) (by kernel_rfl) (by kernel_rfl) (fun _ _ _ h => h) (Or.inl (And.intro (by kernel_rfl) ?q17_70)) trivial ?r17_70; (case q17_70 => (intro w _; (try dsimp only); (try go_simp); (try with_reducible rfl)))
    try simp only [Act.put, List.setIfInBounds_toArray, List.set_cons_zero, List.set_cons_succ, List.getElem_toArray, List.getElem_cons_succ, List.getElem_cons_zero]
    refine wpAnyH_take (i := 18) (v := ?v18_71) rfl (by kernel_rfl) (by kernel_rfl) (by kernel_rfl) (fun _ _ _ h => h) (Or.inl (And.intro (by kernel_rfl) ?q18_71)) trivial ?r18_71; (case q18_71 => (intro w _; (try dsimp only); (try go_simp); (try with_reducible rfl)))
    try simp only [Act.put, List.setIfInBounds_toArray, List.set_cons_zero, List.set_cons_succ, List.getElem_toArray, List.getElem_cons_succ, List.getElem_cons_zero]
    refine wpAnyH_take (i := 19) (v := ?v19_72) rfl (by kernel_rfl) (by kernel_rfl) (by kernel_rfl) (fun _ _ _ h => h) (Or.inl (And.intro (by kernel_rfl) ?q19_72)) trivial ?r19_72; (case q19_72 => (intro w _; (try dsimp only); (try go_simp); (try with_reducible rfl)))
    try simp only [Act.put, List.setIfInBounds_toArray, List.set_cons_zero, List.set_cons_succ, List.getElem_toArray, List.getElem_cons_succ, List.getElem_cons_zero]
    refine wpAnyH_take (i := 20) (v := ?v20_73) rfl (by kernel_rfl) (by kernel_rfl) (by kernel_rfl) (fun _ _ _ h => h) (Or.inl (And.intro (by kernel_rfl) ?q20_73)) trivial ?r20_73; (case q20_73 => (intro w _; (try dsimp only); (try go_simp); (try with_reducible rfl)))
    try simp only [Act.put, List.setIfInBounds_toArray, List.set_cons_zero, List.set_cons_succ, List.getElem_toArray, List.getElem_cons_succ, List.getElem_cons_zero]
    refine wpAnyH_take (i := 21) (v := ?v21_74) rfl (by kernel_rfl) (by kernel_rfl) (by kernel_rfl) (fun _ _ _ h => h) (Or.inl (And.intro (by kernel_rfl) ?q21_74)) trivial ?r21_74; (case q21_74 => (intro w _; (try dsimp only); (try go_simp); (try with_reducible rfl)))
    try simp only [Act.put, List.setIfInBounds_toArray, List.set_cons_zero, List.set_cons_succ, List.getElem_toArray, List.getElem_cons_succ, List.getElem_cons_zero]
    refine wpAnyH_take (i := 22) (v := ?v22_75) rfl (by kernel_rfl) (by kernel_rfl) (by kernel_rfl) (fun _ _ _ h => h) (Or.inl (And.intro (by kernel_rfl) ?q22_75)) trivial ?r22_75; (case q22_75 => (intro w _; (try dsimp only); (try go_simp); (try with_reducible rfl)))
    try simp only [Act.put, List.setIfInBounds_toArray, List.set_cons_zero, List.set_cons_succ, List.getElem_toArray, List.getElem_cons_succ, List.getElem_cons_zero]
    refine wpAnyH_ready (rs := [23]) (by kernel_rfl) (by simp) ?_
    refine AllReadyH.cons rfl (fun K hK => ?_) AllReadyH.nil
    rw [if_pos (by kernel_rfl)]
    (try simp only [List.getElem_toArray, List.getElem_cons_succ, List.getElem_cons_zero])
    go_simp
    (with_reducible refine (C0.out _ (KK.out.below (by (repeat' (first | with_reducible exact bJ5 | with_reducible exact Below.refl _ _ | with_reducible refine Below.setCell ?_ (by first | exact Nat.le_refl _ | (dsimp only; omega)) _ | with_reducible refine bstep ?_ (fresh_below _ _) | with_reducible refine Below.drew ?_))))).mono ?_)
    rintro e wJ23 ⟨rfl, bJ23⟩
    replace bJ23 : Below w.heap.size w wJ23 := by (refine bstep ?_ bJ23); (repeat' (first | with_reducible exact bJ5 | with_reducible exact Below.refl _ _ | with_reducible refine Below.setCell ?_ (by first | exact Nat.le_refl _ | (dsimp only; omega)) _ | with_reducible refine bstep ?_ (fresh_below _ _) | with_reducible refine Below.drew ?_))
    try go_wp2_with fail
    refine hK.out _ _ trivial (fun _ => ?_)
    clear hK K
    try simp only [Act.put, List.setIfInBounds_toArray, List.set_cons_zero, List.set_cons_succ, List.getElem_toArray, List.getElem_cons_succ, List.getElem_cons_zero]
    refine wpAnyH_take (i := 24) (v := ?v24_77) rfl (by kernel_rfl) (by kernel_rfl) (by kernel_rfl) (fun _ _ _ h => h) (Or.inl (And.intro (by kernel_rfl) ?q24_77)) trivial ?r24_77; (case q24_77 => (intro w _; (try dsimp only); (try go_simp); (try with_reducible rfl)))
    try simp only [Act.put, List.setIfInBounds_toArray, List.set_cons_zero, List.set_cons_succ, List.getElem_toArray, List.getElem_cons_succ, List.getElem_cons_zero]
    refine wpAnyH_take (i := 25) (v := ?v25_78) rfl (by kernel_rfl) (by kernel_rfl) (by kernel_rfl) (fun _ _ _ h => h) (Or.inl (And.intro (by kernel_rfl) ?q25_78)) trivial ?r25_78; (case q25_78 => (intro w _; (try dsimp only); (try go_simp); (try with_reducible rfl)))
    try simp only [Act.put, List.setIfInBounds_toArray, List.set_cons_zero, List.set_cons_succ, List.getElem_toArray, List.getElem_cons_succ, List.getElem_cons_zero]
    refine wpAnyH_done (by kernel_rfl) ?_ _
    go_wp2
    go_ret
    exact ⟨rfl, (by (repeat' (first | with_reducible exact bJ23 | with_reducible exact Below.refl _ _ | with_reducible refine Below.setCell ?_ (by first | exact Nat.le_refl _ | (dsimp only; omega)) _ | with_reducible refine bstep ?_ (fresh_below _ _) | with_reducible refine Below.drew ?_)))⟩

set_option maxRecDepth 100000 in
set_option maxHeartbeats 8000000 in
theorem IcmpID_pA (s t tv tt : ByteArray) (id : Int) (w : World) (K0 : Kinds w) (h8 : 8 ≤ s.size) (h6 : s.size ≤ 600) (x1 x2 x3 y1 y2 y3 q u : Int) (x4 x5 y4 y5 : ByteArray) (b : Bool)
    
    (p2 : ∀ w, Calls Tryd.prog 13 #[.string s] w (Ret (.tuple #[.agg #[.int .u8 x1, .int .u8 x2, .int .u16 x3, .string x4, .string x5], .bool true]) w))
    (p3 : ∀ w, Calls Tryd.prog 23 #[.agg #[.int .u8 x1, .int .u8 x2, .int .u16 x3, .string x4, .string x5], .int .u16 id] w (Ret (.agg #[.int .u8 y1, .int .u8 y2, .int .u16 y3, .string y4, .string y5]) w))
    (p4 : ∀ w, Calls Tryd.prog 21 #[.agg #[.int .u8 x1, .int .u8 x2, .int .u16 x3, .string x4, .string x5]] w (Ret (.int .u16 q) w))
    (p5 : ∀ w, Calls Tryd.prog 25 #[.int .u16 x3, .int .u16 q, .int .u16 id] w (Ret (.int .u16 u) w))
    (p6 : ∀ w, Calls Tryd.prog 15 #[.agg #[.int .u8 y1, .int .u8 y2, .int .u16 u, .string y4, .string y5]] w (Ret (.tuple #[.string t, .int .i64 0]) w))
    (p7 : ∀ w, Calls Tryd.prog 26 #[.string s, .string { data := #[0] }] w (Ret (.string tv) w))
    (p8 : ∀ w, Calls Tryd.prog 26 #[.string t, .string { data := #[0] }] w (Ret (.string tt) w))
    
    (p10 : ∀ w, Calls Tryd.prog 9 #[.string s] w (Ret (.bool b) w))
    (hz : t.size = s.size) (q6 : ((t.extract 6 s.size).toList == (s.extract 6 s.size).toList) = true)
    (hk : (tv.toList == []) = true) :
    Calls Tryd.prog 7 #[.string s, .bool false, .int .u16 id] w (Ret (.bool true) w) := by
  have c0 := fun w k => echoed w k
  have KK := hide K0; have C0 := hide c0; have P2 := hide p2; have P3 := hide p3; have P4 := hide p4; have P5 := hide p5; have P6 := hide p6; have P7 := hide p7; have P8 := hide p8; have P10 := hide p10
  clear K0 c0 p2 p3 p4 p5 p6 p7 p8 p10
  have m1 : ¬ (s.size : Int) < 8 := by omega
  have m2 : ¬ 600 < (s.size : Int) := by omega
  have m3 : (6 : Int) ≤ (s.size : Int) := by omega
  have qb : (b == b) = true := by simp
  have k1 := hk
  go_enter Tryd.func7, Tryd.ntmps7
  go_wp2_with fail
  (with_reducible refine (P2.out _).mono ?_)
  rintro e w2 ⟨rfl, b2⟩
  replace b2 : Below w.heap.size w w2 := by (refine bstep ?_ b2); (repeat' (first | with_reducible exact Below.refl _ _ | with_reducible refine Below.setCell ?_ (by first | exact Nat.le_refl _ | (dsimp only; omega)) _ | with_reducible refine bstep ?_ (fresh_below _ _) | with_reducible refine Below.drew ?_))
  have z2 : w.heap.size ≤ w2.heap.size := b2.size
  have dm := Cells.new w2 #[.int .u8 x1, .int .u8 x2, .int .u16 x3, .string x4, .string x5] 29
  have dx := dm
  have xdx_0 : (w2.alloc (.cells #[.int .u8 x1, .int .u8 x2, .int .u16 x3, .string x4, .string x5] 29)).cell? ⟨w2.heap.size, 0, none⟩ = some (.int .u8 x1) := dx.at_ 0
  have xdx_1 : (w2.alloc (.cells #[.int .u8 x1, .int .u8 x2, .int .u16 x3, .string x4, .string x5] 29)).cell? ⟨w2.heap.size, 1, none⟩ = some (.int .u8 x2) := dx.at_ 1
  have xdx_2 : (w2.alloc (.cells #[.int .u8 x1, .int .u8 x2, .int .u16 x3, .string x4, .string x5] 29)).cell? ⟨w2.heap.size, 2, none⟩ = some (.int .u16 x3) := dx.at_ 2
  have xdx_3 : (w2.alloc (.cells #[.int .u8 x1, .int .u8 x2, .int .u16 x3, .string x4, .string x5] 29)).cell? ⟨w2.heap.size, 3, none⟩ = some (.string x4) := dx.at_ 3
  have xdx_4 : (w2.alloc (.cells #[.int .u8 x1, .int .u8 x2, .int .u16 x3, .string x4, .string x5] 29)).cell? ⟨w2.heap.size, 4, none⟩ = some (.string x5) := dx.at_ 4
  go_wp2_with fail
  (with_reducible refine (P3.out _).mono ?_)
  rintro e w3 ⟨rfl, b3⟩
  replace dm := Cells.up dm (by (repeat' (first | with_reducible exact Below.refl _ _ | with_reducible refine bstep ?_ (fresh_below _ _) | with_reducible refine Below.drew ?_))) b3
  replace b3 : Below w.heap.size w w3 := by (refine bstep ?_ b3); (repeat' (first | with_reducible exact b2 | with_reducible exact Below.refl _ _ | with_reducible refine Below.setCell ?_ (by first | exact Nat.le_refl _ | (dsimp only; omega)) _ | with_reducible refine bstep ?_ (fresh_below _ _) | with_reducible refine Below.drew ?_))
  have z3 : w.heap.size ≤ w3.heap.size := b3.size
  have nlt : w2.heap.size < w3.heap.size := dm.lt
  replace dm := Cells.below (fresh_below w3 (.cells #[.int .u8 y1, .int .u8 y2, .int .u16 y3, .string y4, .string y5] 29)) dm
  have dn := Cells.new w3 #[.int .u8 y1, .int .u8 y2, .int .u16 y3, .string y4, .string y5] 29
  have b4 : Below w.heap.size w (w3.alloc (.cells #[.int .u8 y1, .int .u8 y2, .int .u16 y3, .string y4, .string y5] 29)) := bstep b3 (fresh_below _ _)
  have n1 : w2.heap.size ≠ w3.heap.size := Nat.ne_of_lt nlt
  go_wp2_with fail
  generalize w3.alloc (.cells #[.int .u8 y1, .int .u8 y2, .int .u16 y3, .string y4, .string y5] 29) = W at *
  have fS := hide (fun (zX : World) (hX : Cells zX w2.heap.size #[.int .u8 x1, .int .u8 x2, .int .u16 x3, .string x4, .string x5] 29) => (show World.cell? zX ⟨w2.heap.size, 0, none⟩ = some (.int .u8 x1) ∧ World.cell? zX ⟨w2.heap.size, 1, none⟩ = some (.int .u8 x2) ∧ World.cell? zX ⟨w2.heap.size, 2, none⟩ = some (.int .u16 x3) ∧ World.cell? zX ⟨w2.heap.size, 3, none⟩ = some (.string x4) ∧ World.cell? zX ⟨w2.heap.size, 4, none⟩ = some (.string x5) from ⟨hX.at_ 0, hX.at_ 1, hX.at_ 2, hX.at_ 3, hX.at_ 4⟩))
  have HM := hide dm
  go_region_held3 (fun zW => World.cell? zW ⟨w2.heap.size, 0, none⟩ = some (.int .u8 x1) ∧ World.cell? zW ⟨w2.heap.size, 1, none⟩ = some (.int .u8 x2) ∧ World.cell? zW ⟨w2.heap.size, 2, none⟩ = some (.int .u16 x3) ∧ World.cell? zW ⟨w2.heap.size, 3, none⟩ = some (.string x4) ∧ World.cell? zW ⟨w2.heap.size, 4, none⟩ = some (.string x5)) (((try dsimp only); with_reducible refine fS.out _ ?_; (repeat' (first | with_reducible exact HM.out | with_reducible assumption | with_reducible refine Cells.drew ?_ | with_reducible refine Cells.other ?_ n1 _ _))))
    (first | (go_at_call 21; (with_reducible refine (P4.out _).mono ?_); rintro e wa ⟨rfl, ba⟩; have Da : Cells wa w2.heap.size #[.int .u8 x1, .int .u8 x2, .int .u16 x3, .string x4, .string x5] 29 := Cells.below ba dm; have Ea : Cells wa w3.heap.size #[.int .u8 y1, .int .u8 y2, .int .u16 y3, .string y4, .string y5] 29 := Cells.below ba dn) | (go_at_call 25; (with_reducible refine (P5.out _).mono ?_); rintro e wb ⟨rfl, bb⟩; have Db := Cells.below bb Da; have Eb := Cells.below bb Ea; have E0 : wb.cell? ⟨w3.heap.size, 2, none⟩ = some (.int .u16 y3) := Eb.at_ 2; have E1 := Eb.free 2))
  all_goals
    have b5 : Below w.heap.size w wb := bstep (bstep b4.drew ba) bb
    have d7 : Cells (wb.setCell ⟨w3.heap.size, 2, none⟩ (.int .u16 u)) w3.heap.size #[.int .u8 y1, .int .u8 y2, .int .u16 u, .string y4, .string y5] 29 := Eb.set_ 2 (.int .u16 u)
    have b7 : Below w.heap.size w (wb.setCell ⟨w3.heap.size, 2, none⟩ (.int .u16 u)) := Below.setCell b5 (p := ⟨w3.heap.size, 2, none⟩) b3.size _
    clear Da Ea Db Eb E0 E1 ba bb b5
    generalize (wb.setCell ⟨w3.heap.size, 2, none⟩ (.int .u16 u)) = W7 at *
    have xd7_0 : W7.cell? ⟨w3.heap.size, 0, none⟩ = some (.int .u8 y1) := d7.at_ 0
    have xd7_1 : W7.cell? ⟨w3.heap.size, 1, none⟩ = some (.int .u8 y2) := d7.at_ 1
    have xd7_2 : W7.cell? ⟨w3.heap.size, 2, none⟩ = some (.int .u16 u) := d7.at_ 2
    have xd7_3 : W7.cell? ⟨w3.heap.size, 3, none⟩ = some (.string y4) := d7.at_ 3
    have xd7_4 : W7.cell? ⟨w3.heap.size, 4, none⟩ = some (.string y5) := d7.at_ 4
    go_wp2_with fail
    (with_reducible refine (P6.out _).mono ?_)
    rintro e w8 ⟨rfl, b8⟩
    replace b8 : Below w.heap.size w w8 := bstep b7 b8
    have z8 : w.heap.size ≤ w8.heap.size := b8.size
    clear xd7_0 xd7_1 xd7_2 xd7_3 xd7_4 d7
    go_wp2_with fail
    (with_reducible refine (P7.out _).mono ?_)
    rintro e w9 ⟨rfl, b9⟩
    replace b9 : Below w.heap.size w w9 := by (refine bstep ?_ b9); (repeat' (first | with_reducible exact b8 | with_reducible exact Below.refl _ _ | with_reducible refine Below.setCell ?_ (by first | exact Nat.le_refl _ | (dsimp only; omega)) _ | with_reducible refine bstep ?_ (fresh_below _ _) | with_reducible refine Below.drew ?_))
    have z9 : w.heap.size ≤ w9.heap.size := b9.size
    have b10 := b9
    go_wp2_with fail
    refine wp_region_held_drew (S := fun _ => True) (by kernel_rfl) trivial (fun _ => ?_)
    refine wpAnyH_take (i := 0) (v := ?v0_79) rfl (by kernel_rfl) (by kernel_rfl) (by kernel_rfl) (fun _ _ _ h => h) (Or.inl (And.intro (by kernel_rfl) ?q0_79)) trivial ?r0_79; (case q0_79 => (intro w _; (try dsimp only); (try go_simp); (try with_reducible rfl)))
    try simp only [Act.put, List.setIfInBounds_toArray, List.set_cons_zero, List.set_cons_succ, List.getElem_toArray, List.getElem_cons_succ, List.getElem_cons_zero]
    refine wpAnyH_take (i := 1) (v := ?v1_80) rfl (by kernel_rfl) (by kernel_rfl) (by kernel_rfl) (fun _ _ _ h => h) (Or.inl (And.intro (by kernel_rfl) ?q1_80)) trivial ?r1_80; (case q1_80 => (intro w _; (try dsimp only); (try go_simp); (try with_reducible rfl)))
    try simp only [Act.put, List.setIfInBounds_toArray, List.set_cons_zero, List.set_cons_succ, List.getElem_toArray, List.getElem_cons_succ, List.getElem_cons_zero]
    refine wpAnyH_take (i := 2) (v := undef) rfl (by kernel_rfl) (by kernel_rfl) (by kernel_rfl) (fun _ _ _ h => h) (Or.inr (And.intro (by kernel_rfl) rfl)) trivial ?r2_81
    try simp only [Act.put, List.setIfInBounds_toArray, List.set_cons_zero, List.set_cons_succ, List.getElem_toArray, List.getElem_cons_succ, List.getElem_cons_zero]
    refine wpAnyH_take (i := 3) (v := undef) rfl (by kernel_rfl) (by kernel_rfl) (by kernel_rfl) (fun _ _ _ h => h) (Or.inr (And.intro (by kernel_rfl) rfl)) trivial ?r3_82
    try simp only [Act.put, List.setIfInBounds_toArray, List.set_cons_zero, List.set_cons_succ, List.getElem_toArray, List.getElem_cons_succ, List.getElem_cons_zero]
    refine wpAnyH_take (i := 4) (v := undef) rfl (by kernel_rfl) (by kernel_rfl) (by kernel_rfl) (fun _ _ _ h => h) (Or.inr (And.intro (by kernel_rfl) rfl)) trivial ?r4_83
    try simp only [Act.put, List.setIfInBounds_toArray, List.set_cons_zero, List.set_cons_succ, List.getElem_toArray, List.getElem_cons_succ, List.getElem_cons_zero]
    refine wpAnyH_take (i := 5) (v := undef) rfl (by kernel_rfl) (by kernel_rfl) (by kernel_rfl) (fun _ _ _ h => h) (Or.inr (And.intro (by kernel_rfl) rfl)) trivial ?r5_84
    try simp only [Act.put, List.setIfInBounds_toArray, List.set_cons_zero, List.set_cons_succ, List.getElem_toArray, List.getElem_cons_succ, List.getElem_cons_zero]
    refine wpAnyH_take (i := 6) (v := undef) rfl (by kernel_rfl) (by kernel_rfl) (by kernel_rfl) (fun _ _ _ h => h) (Or.inr (And.intro (by kernel_rfl) rfl)) trivial ?r6_85
    try simp only [Act.put, List.setIfInBounds_toArray, List.set_cons_zero, List.set_cons_succ, List.getElem_toArray, List.getElem_cons_succ, List.getElem_cons_zero]
    refine wpAnyH_take (i := 7) (v := ?v7_86) rfl (by kernel_rfl) (by kernel_rfl) (by kernel_rfl) (fun _ _ _ h => h) (Or.inl (And.intro (by kernel_rfl) ?q7_86)) trivial ?r7_86; (case q7_86 => (intro w _; (try dsimp only); (try go_simp); (try with_reducible rfl)))
    try simp only [Act.put, List.setIfInBounds_toArray, List.set_cons_zero, List.set_cons_succ, List.getElem_toArray, List.getElem_cons_succ, List.getElem_cons_zero]
    refine wpAnyH_take (i := 8) (v := ?v8_87) rfl (by kernel_rfl) (by kernel_rfl) (by kernel_rfl) (fun _ _ _ h => h) (Or.inl (And.intro (by kernel_rfl) ?q8_87)) trivial ?r8_87; (case q8_87 => (intro w _; (try dsimp only); (try go_simp); (try with_reducible rfl)))
    try simp only [Act.put, List.setIfInBounds_toArray, List.set_cons_zero, List.set_cons_succ, List.getElem_toArray, List.getElem_cons_succ, List.getElem_cons_zero]
    refine wpAnyH_take (i := 9) (v := ?v9_88) rfl (by kernel_rfl) (by kernel_rfl) (by kernel_rfl) (fun _ _ _ h => h) (Or.inl (And.intro (by kernel_rfl) ?q9_88)) trivial ?r9_88; (case q9_88 => (intro w _; (try dsimp only); (try go_simp); (try with_reducible rfl)))
    try simp only [Act.put, List.setIfInBounds_toArray, List.set_cons_zero, List.set_cons_succ, List.getElem_toArray, List.getElem_cons_succ, List.getElem_cons_zero]
    refine wpAnyH_take (i := 10) (v := ?v10_89) rfl (by kernel_rfl) (by kernel_rfl) (by kernel_rfl) (fun _ _ _ h => h) (Or.inl (And.intro (by kernel_rfl) ?q10_89)) trivial ?r10_89; (case q10_89 => (intro w _; (try dsimp only); (try go_simp); (try with_reducible rfl)))
    try simp only [Act.put, List.setIfInBounds_toArray, List.set_cons_zero, List.set_cons_succ, List.getElem_toArray, List.getElem_cons_succ, List.getElem_cons_zero]
    refine wpAnyH_take (i := 11) (v := ?v11_90) rfl (by kernel_rfl) (by kernel_rfl) (by kernel_rfl) (fun _ _ _ h => h) (Or.inl (And.intro (by kernel_rfl) ?q11_90)) trivial ?r11_90; (case q11_90 => (intro w _; (try dsimp only); (try go_simp); (try with_reducible rfl)))
    try simp only [Act.put, List.setIfInBounds_toArray, List.set_cons_zero, List.set_cons_succ, List.getElem_toArray, List.getElem_cons_succ, List.getElem_cons_zero]
    refine wpAnyH_take (i := 12) (v := ?v12_91) rfl (by kernel_rfl) (by kernel_rfl) (by kernel_rfl) (fun _ _ _ h => h) (Or.inl (And.intro (by kernel_rfl) ?q12_91)) trivial ?r12_91; (case q12_91 => (intro w _; (try dsimp only); (try go_simp); (try with_reducible rfl)))
    try simp only [Act.put, List.setIfInBounds_toArray, List.set_cons_zero, List.set_cons_succ, List.getElem_toArray, List.getElem_cons_succ, List.getElem_cons_zero]
    refine wpAnyH_take (i := 13) (v := ?v13_92) rfl (by kernel_rfl) (by kernel_rfl) (by kernel_rfl) (fun _ _ _ h => h) (Or.inl (And.intro (by kernel_rfl) ?q13_92)) trivial ?r13_92; (case q13_92 => (intro w _; (try dsimp only); (try go_simp); (try with_reducible rfl)))
    try simp only [Act.put, List.setIfInBounds_toArray, List.set_cons_zero, List.set_cons_succ, List.getElem_toArray, List.getElem_cons_succ, List.getElem_cons_zero]
    refine wpAnyH_take (i := 14) (v := ?v14_93) rfl (by kernel_rfl) (by kernel_rfl) (by kernel_rfl) (fun _ _ _ h => h) (Or.inl (And.intro (by kernel_rfl) ?q14_93)) trivial ?r14_93; (case q14_93 => (intro w _; (try dsimp only); (try go_simp); (try with_reducible rfl)))
    try simp only [Act.put, List.setIfInBounds_toArray, List.set_cons_zero, List.set_cons_succ, List.getElem_toArray, List.getElem_cons_succ, List.getElem_cons_zero]
    refine wpAnyH_take (i := 15) (v := ?v15_94) rfl (by kernel_rfl) (by kernel_rfl) (by kernel_rfl) (fun _ _ _ h => h) (Or.inl (And.intro (by kernel_rfl) ?q15_94)) trivial ?r15_94; (case q15_94 => (intro w _; (try dsimp only); (try go_simp); (try with_reducible rfl)))
    try simp only [Act.put, List.setIfInBounds_toArray, List.set_cons_zero, List.set_cons_succ, List.getElem_toArray, List.getElem_cons_succ, List.getElem_cons_zero]
    refine wpAnyH_take (i := 16) (v := ?v16_95) rfl (by kernel_rfl) (by kernel_rfl) (by kernel_rfl) (fun _ _ _ h => h) (Or.inl (And.intro (by kernel_rfl) ?q16_95)) trivial ?r16_95; (case q16_95 => (intro w _; (try dsimp only); (try go_simp); (try with_reducible rfl)))
    try simp only [Act.put, List.setIfInBounds_toArray, List.set_cons_zero, List.set_cons_succ, List.getElem_toArray, List.getElem_cons_succ, List.getElem_cons_zero]
    refine wpAnyH_take (i := 17) (v := ?v17_96) rfl (by kernel_rfl) (by kernel_rfl) (by kernel_rfl) (fun _ _ _ h => h) (Or.inl (And.intro (by kernel_rfl) ?q17_96)) trivial ?r17_96; (case q17_96 => (intro w _; (try dsimp only); (try go_simp); (try with_reducible rfl)))
    try simp only [Act.put, List.setIfInBounds_toArray, List.set_cons_zero, List.set_cons_succ, List.getElem_toArray, List.getElem_cons_succ, List.getElem_cons_zero]
    refine wpAnyH_take (i := 18) (v := ?v18_97) rfl (by kernel_rfl) (by kernel_rfl) (by kernel_rfl) (fun _ _ _ h => h) (Or.inl (And.intro (by kernel_rfl) ?q18_97)) trivial ?r18_97; (case q18_97 => (intro w _; (try dsimp only); (try go_simp); (try with_reducible rfl)))
    try simp only [Act.put, List.setIfInBounds_toArray, List.set_cons_zero, List.set_cons_succ, List.getElem_toArray, List.getElem_cons_succ, List.getElem_cons_zero]
    refine wpAnyH_take (i := 19) (v := ?v19_98) rfl (by kernel_rfl) (by kernel_rfl) (by kernel_rfl) (fun _ _ _ h => h) (Or.inl (And.intro (by kernel_rfl) ?q19_98)) trivial ?r19_98; (case q19_98 => (intro w _; (try dsimp only); (try go_simp); (try with_reducible rfl)))
    try simp only [Act.put, List.setIfInBounds_toArray, List.set_cons_zero, List.set_cons_succ, List.getElem_toArray, List.getElem_cons_succ, List.getElem_cons_zero]
    refine wpAnyH_take (i := 20) (v := ?v20_99) rfl (by kernel_rfl) (by kernel_rfl) (by kernel_rfl) (fun _ _ _ h => h) (Or.inl (And.intro (by kernel_rfl) ?q20_99)) trivial ?r20_99; (case q20_99 => (intro w _; (try dsimp only); (try go_simp); (try with_reducible rfl)))
    try simp only [Act.put, List.setIfInBounds_toArray, List.set_cons_zero, List.set_cons_succ, List.getElem_toArray, List.getElem_cons_succ, List.getElem_cons_zero]
    refine wpAnyH_take (i := 21) (v := ?v21_100) rfl (by kernel_rfl) (by kernel_rfl) (by kernel_rfl) (fun _ _ _ h => h) (Or.inl (And.intro (by kernel_rfl) ?q21_100)) trivial ?r21_100; (case q21_100 => (intro w _; (try dsimp only); (try go_simp); (try with_reducible rfl)))
    try simp only [Act.put, List.setIfInBounds_toArray, List.set_cons_zero, List.set_cons_succ, List.getElem_toArray, List.getElem_cons_succ, List.getElem_cons_zero]
    refine wpAnyH_take (i := 22) (v := ?v22_101) rfl (by kernel_rfl) (by kernel_rfl) (by kernel_rfl) (fun _ _ _ h => h) (Or.inl (And.intro (by kernel_rfl) ?q22_101)) trivial ?r22_101; (case q22_101 => (intro w _; (try dsimp only); (try go_simp); (try with_reducible rfl)))
    try simp only [Act.put, List.setIfInBounds_toArray, List.set_cons_zero, List.set_cons_succ, List.getElem_toArray, List.getElem_cons_succ, List.getElem_cons_zero]
    refine wpAnyH_ready (rs := [23]) (by kernel_rfl) (by simp) ?_
    refine AllReadyH.cons rfl (fun K hK => ?_) AllReadyH.nil
    rw [if_pos (by kernel_rfl)]
    (try simp only [List.getElem_toArray, List.getElem_cons_succ, List.getElem_cons_zero])
    go_simp
    (with_reducible refine (C0.out _ (KK.out.below (by (repeat' (first | with_reducible exact b9 | with_reducible exact Below.refl _ _ | with_reducible refine Below.setCell ?_ (by first | exact Nat.le_refl _ | (dsimp only; omega)) _ | with_reducible refine bstep ?_ (fresh_below _ _) | with_reducible refine Below.drew ?_))))).mono ?_)
    rintro e wJ23 ⟨rfl, bJ23⟩
    replace bJ23 : Below w.heap.size w wJ23 := by (refine bstep ?_ bJ23); (repeat' (first | with_reducible exact b9 | with_reducible exact Below.refl _ _ | with_reducible refine Below.setCell ?_ (by first | exact Nat.le_refl _ | (dsimp only; omega)) _ | with_reducible refine bstep ?_ (fresh_below _ _) | with_reducible refine Below.drew ?_))
    try go_wp2_with fail
    refine hK.out _ _ trivial (fun _ => ?_)
    clear hK K
    try simp only [Act.put, List.setIfInBounds_toArray, List.set_cons_zero, List.set_cons_succ, List.getElem_toArray, List.getElem_cons_succ, List.getElem_cons_zero]
    refine wpAnyH_take (i := 24) (v := ?v24_103) rfl (by kernel_rfl) (by kernel_rfl) (by kernel_rfl) (fun _ _ _ h => h) (Or.inl (And.intro (by kernel_rfl) ?q24_103)) trivial ?r24_103; (case q24_103 => (intro w _; (try dsimp only); (try go_simp); (try with_reducible rfl)))
    try simp only [Act.put, List.setIfInBounds_toArray, List.set_cons_zero, List.set_cons_succ, List.getElem_toArray, List.getElem_cons_succ, List.getElem_cons_zero]
    refine wpAnyH_take (i := 25) (v := ?v25_104) rfl (by kernel_rfl) (by kernel_rfl) (by kernel_rfl) (fun _ _ _ h => h) (Or.inl (And.intro (by kernel_rfl) ?q25_104)) trivial ?r25_104; (case q25_104 => (intro w _; (try dsimp only); (try go_simp); (try with_reducible rfl)))
    try simp only [Act.put, List.setIfInBounds_toArray, List.set_cons_zero, List.set_cons_succ, List.getElem_toArray, List.getElem_cons_succ, List.getElem_cons_zero]
    refine wpAnyH_done (by kernel_rfl) ?_ _
    go_wp2
    go_ret
    exact ⟨rfl, (by (repeat' (first | with_reducible exact bJ23 | with_reducible exact Below.refl _ _ | with_reducible refine Below.setCell ?_ (by first | exact Nat.le_refl _ | (dsimp only; omega)) _ | with_reducible refine bstep ?_ (fresh_below _ _) | with_reducible refine Below.drew ?_)))⟩

set_option maxRecDepth 100000 in
set_option maxHeartbeats 8000000 in
theorem IcmpID_pB (s t tv tt : ByteArray) (id : Int) (w : World) (K0 : Kinds w) (h8 : 8 ≤ s.size) (h6 : s.size ≤ 600) (x1 x2 x3 y1 y2 y3 q u : Int) (x4 x5 y4 y5 : ByteArray) (b : Bool)
    
    (p2 : ∀ w, Calls Tryd.prog 13 #[.string s] w (Ret (.tuple #[.agg #[.int .u8 x1, .int .u8 x2, .int .u16 x3, .string x4, .string x5], .bool true]) w))
    (p3 : ∀ w, Calls Tryd.prog 23 #[.agg #[.int .u8 x1, .int .u8 x2, .int .u16 x3, .string x4, .string x5], .int .u16 id] w (Ret (.agg #[.int .u8 y1, .int .u8 y2, .int .u16 y3, .string y4, .string y5]) w))
    (p4 : ∀ w, Calls Tryd.prog 21 #[.agg #[.int .u8 x1, .int .u8 x2, .int .u16 x3, .string x4, .string x5]] w (Ret (.int .u16 q) w))
    (p5 : ∀ w, Calls Tryd.prog 25 #[.int .u16 x3, .int .u16 q, .int .u16 id] w (Ret (.int .u16 u) w))
    (p6 : ∀ w, Calls Tryd.prog 15 #[.agg #[.int .u8 y1, .int .u8 y2, .int .u16 u, .string y4, .string y5]] w (Ret (.tuple #[.string t, .int .i64 0]) w))
    (p7 : ∀ w, Calls Tryd.prog 26 #[.string s, .string { data := #[0] }] w (Ret (.string tv) w))
    (p8 : ∀ w, Calls Tryd.prog 26 #[.string t, .string { data := #[0] }] w (Ret (.string tt) w))
    
    (p10 : ∀ w, Calls Tryd.prog 9 #[.string s] w (Ret (.bool b) w))
    (hz : t.size = s.size) (q6 : ((t.extract 6 s.size).toList == (s.extract 6 s.size).toList) = true)
    (hk : (tv.toList == []) = false ∧ (tt.toList == []) = true) :
    Calls Tryd.prog 7 #[.string s, .bool false, .int .u16 id] w (Ret (.bool true) w) := by
  have c0 := fun w k => echoed w k
  have KK := hide K0; have C0 := hide c0; have P2 := hide p2; have P3 := hide p3; have P4 := hide p4; have P5 := hide p5; have P6 := hide p6; have P7 := hide p7; have P8 := hide p8; have P10 := hide p10
  clear K0 c0 p2 p3 p4 p5 p6 p7 p8 p10
  have m1 : ¬ (s.size : Int) < 8 := by omega
  have m2 : ¬ 600 < (s.size : Int) := by omega
  have m3 : (6 : Int) ≤ (s.size : Int) := by omega
  have qb : (b == b) = true := by simp
  obtain ⟨k1, k2⟩ := hk
  go_enter Tryd.func7, Tryd.ntmps7
  go_wp2_with fail
  (with_reducible refine (P2.out _).mono ?_)
  rintro e w2 ⟨rfl, b2⟩
  replace b2 : Below w.heap.size w w2 := by (refine bstep ?_ b2); (repeat' (first | with_reducible exact Below.refl _ _ | with_reducible refine Below.setCell ?_ (by first | exact Nat.le_refl _ | (dsimp only; omega)) _ | with_reducible refine bstep ?_ (fresh_below _ _) | with_reducible refine Below.drew ?_))
  have z2 : w.heap.size ≤ w2.heap.size := b2.size
  have dm := Cells.new w2 #[.int .u8 x1, .int .u8 x2, .int .u16 x3, .string x4, .string x5] 29
  have dx := dm
  have xdx_0 : (w2.alloc (.cells #[.int .u8 x1, .int .u8 x2, .int .u16 x3, .string x4, .string x5] 29)).cell? ⟨w2.heap.size, 0, none⟩ = some (.int .u8 x1) := dx.at_ 0
  have xdx_1 : (w2.alloc (.cells #[.int .u8 x1, .int .u8 x2, .int .u16 x3, .string x4, .string x5] 29)).cell? ⟨w2.heap.size, 1, none⟩ = some (.int .u8 x2) := dx.at_ 1
  have xdx_2 : (w2.alloc (.cells #[.int .u8 x1, .int .u8 x2, .int .u16 x3, .string x4, .string x5] 29)).cell? ⟨w2.heap.size, 2, none⟩ = some (.int .u16 x3) := dx.at_ 2
  have xdx_3 : (w2.alloc (.cells #[.int .u8 x1, .int .u8 x2, .int .u16 x3, .string x4, .string x5] 29)).cell? ⟨w2.heap.size, 3, none⟩ = some (.string x4) := dx.at_ 3
  have xdx_4 : (w2.alloc (.cells #[.int .u8 x1, .int .u8 x2, .int .u16 x3, .string x4, .string x5] 29)).cell? ⟨w2.heap.size, 4, none⟩ = some (.string x5) := dx.at_ 4
  go_wp2_with fail
  (with_reducible refine (P3.out _).mono ?_)
  rintro e w3 ⟨rfl, b3⟩
  replace dm := Cells.up dm (by (repeat' (first | with_reducible exact Below.refl _ _ | with_reducible refine bstep ?_ (fresh_below _ _) | with_reducible refine Below.drew ?_))) b3
  replace b3 : Below w.heap.size w w3 := by (refine bstep ?_ b3); (repeat' (first | with_reducible exact b2 | with_reducible exact Below.refl _ _ | with_reducible refine Below.setCell ?_ (by first | exact Nat.le_refl _ | (dsimp only; omega)) _ | with_reducible refine bstep ?_ (fresh_below _ _) | with_reducible refine Below.drew ?_))
  have z3 : w.heap.size ≤ w3.heap.size := b3.size
  have nlt : w2.heap.size < w3.heap.size := dm.lt
  replace dm := Cells.below (fresh_below w3 (.cells #[.int .u8 y1, .int .u8 y2, .int .u16 y3, .string y4, .string y5] 29)) dm
  have dn := Cells.new w3 #[.int .u8 y1, .int .u8 y2, .int .u16 y3, .string y4, .string y5] 29
  have b4 : Below w.heap.size w (w3.alloc (.cells #[.int .u8 y1, .int .u8 y2, .int .u16 y3, .string y4, .string y5] 29)) := bstep b3 (fresh_below _ _)
  have n1 : w2.heap.size ≠ w3.heap.size := Nat.ne_of_lt nlt
  go_wp2_with fail
  generalize w3.alloc (.cells #[.int .u8 y1, .int .u8 y2, .int .u16 y3, .string y4, .string y5] 29) = W at *
  have fS := hide (fun (zX : World) (hX : Cells zX w2.heap.size #[.int .u8 x1, .int .u8 x2, .int .u16 x3, .string x4, .string x5] 29) => (show World.cell? zX ⟨w2.heap.size, 0, none⟩ = some (.int .u8 x1) ∧ World.cell? zX ⟨w2.heap.size, 1, none⟩ = some (.int .u8 x2) ∧ World.cell? zX ⟨w2.heap.size, 2, none⟩ = some (.int .u16 x3) ∧ World.cell? zX ⟨w2.heap.size, 3, none⟩ = some (.string x4) ∧ World.cell? zX ⟨w2.heap.size, 4, none⟩ = some (.string x5) from ⟨hX.at_ 0, hX.at_ 1, hX.at_ 2, hX.at_ 3, hX.at_ 4⟩))
  have HM := hide dm
  go_region_held3 (fun zW => World.cell? zW ⟨w2.heap.size, 0, none⟩ = some (.int .u8 x1) ∧ World.cell? zW ⟨w2.heap.size, 1, none⟩ = some (.int .u8 x2) ∧ World.cell? zW ⟨w2.heap.size, 2, none⟩ = some (.int .u16 x3) ∧ World.cell? zW ⟨w2.heap.size, 3, none⟩ = some (.string x4) ∧ World.cell? zW ⟨w2.heap.size, 4, none⟩ = some (.string x5)) (((try dsimp only); with_reducible refine fS.out _ ?_; (repeat' (first | with_reducible exact HM.out | with_reducible assumption | with_reducible refine Cells.drew ?_ | with_reducible refine Cells.other ?_ n1 _ _))))
    (first | (go_at_call 21; (with_reducible refine (P4.out _).mono ?_); rintro e wa ⟨rfl, ba⟩; have Da : Cells wa w2.heap.size #[.int .u8 x1, .int .u8 x2, .int .u16 x3, .string x4, .string x5] 29 := Cells.below ba dm; have Ea : Cells wa w3.heap.size #[.int .u8 y1, .int .u8 y2, .int .u16 y3, .string y4, .string y5] 29 := Cells.below ba dn) | (go_at_call 25; (with_reducible refine (P5.out _).mono ?_); rintro e wb ⟨rfl, bb⟩; have Db := Cells.below bb Da; have Eb := Cells.below bb Ea; have E0 : wb.cell? ⟨w3.heap.size, 2, none⟩ = some (.int .u16 y3) := Eb.at_ 2; have E1 := Eb.free 2))
  all_goals
    have b5 : Below w.heap.size w wb := bstep (bstep b4.drew ba) bb
    have d7 : Cells (wb.setCell ⟨w3.heap.size, 2, none⟩ (.int .u16 u)) w3.heap.size #[.int .u8 y1, .int .u8 y2, .int .u16 u, .string y4, .string y5] 29 := Eb.set_ 2 (.int .u16 u)
    have b7 : Below w.heap.size w (wb.setCell ⟨w3.heap.size, 2, none⟩ (.int .u16 u)) := Below.setCell b5 (p := ⟨w3.heap.size, 2, none⟩) b3.size _
    clear Da Ea Db Eb E0 E1 ba bb b5
    generalize (wb.setCell ⟨w3.heap.size, 2, none⟩ (.int .u16 u)) = W7 at *
    have xd7_0 : W7.cell? ⟨w3.heap.size, 0, none⟩ = some (.int .u8 y1) := d7.at_ 0
    have xd7_1 : W7.cell? ⟨w3.heap.size, 1, none⟩ = some (.int .u8 y2) := d7.at_ 1
    have xd7_2 : W7.cell? ⟨w3.heap.size, 2, none⟩ = some (.int .u16 u) := d7.at_ 2
    have xd7_3 : W7.cell? ⟨w3.heap.size, 3, none⟩ = some (.string y4) := d7.at_ 3
    have xd7_4 : W7.cell? ⟨w3.heap.size, 4, none⟩ = some (.string y5) := d7.at_ 4
    go_wp2_with fail
    (with_reducible refine (P6.out _).mono ?_)
    rintro e w8 ⟨rfl, b8⟩
    replace b8 : Below w.heap.size w w8 := bstep b7 b8
    have z8 : w.heap.size ≤ w8.heap.size := b8.size
    clear xd7_0 xd7_1 xd7_2 xd7_3 xd7_4 d7
    go_wp2_with fail
    (with_reducible refine (P7.out _).mono ?_)
    rintro e w9 ⟨rfl, b9⟩
    replace b9 : Below w.heap.size w w9 := by (refine bstep ?_ b9); (repeat' (first | with_reducible exact b8 | with_reducible exact Below.refl _ _ | with_reducible refine Below.setCell ?_ (by first | exact Nat.le_refl _ | (dsimp only; omega)) _ | with_reducible refine bstep ?_ (fresh_below _ _) | with_reducible refine Below.drew ?_))
    have z9 : w.heap.size ≤ w9.heap.size := b9.size
    go_wp2_with fail
    (with_reducible refine (P8.out _).mono ?_)
    rintro e w10 ⟨rfl, b10⟩
    replace b10 : Below w.heap.size w w10 := by (refine bstep ?_ b10); (repeat' (first | with_reducible exact b9 | with_reducible exact Below.refl _ _ | with_reducible refine Below.setCell ?_ (by first | exact Nat.le_refl _ | (dsimp only; omega)) _ | with_reducible refine bstep ?_ (fresh_below _ _) | with_reducible refine Below.drew ?_))
    have z10 : w.heap.size ≤ w10.heap.size := b10.size
    go_wp2_with fail
    refine wp_region_held_drew (S := fun _ => True) (by kernel_rfl) trivial (fun _ => ?_)
    refine wpAnyH_take (i := 0) (v := ?v0_105) rfl (by kernel_rfl) (by kernel_rfl) (by kernel_rfl) (fun _ _ _ h => h) (Or.inl (And.intro (by kernel_rfl) ?q0_105)) trivial ?r0_105; (case q0_105 => (intro w _; (try dsimp only); (try go_simp); (try with_reducible rfl)))
    try simp only [Act.put, List.setIfInBounds_toArray, List.set_cons_zero, List.set_cons_succ, List.getElem_toArray, List.getElem_cons_succ, List.getElem_cons_zero]
    refine wpAnyH_take (i := 1) (v := ?v1_106) rfl (by kernel_rfl) (by kernel_rfl) (by kernel_rfl) (fun _ _ _ h => h) (Or.inl (And.intro (by kernel_rfl) ?q1_106)) trivial ?r1_106; (case q1_106 => (intro w _; (try dsimp only); (try go_simp); (try with_reducible rfl)))
    try simp only [Act.put, List.setIfInBounds_toArray, List.set_cons_zero, List.set_cons_succ, List.getElem_toArray, List.getElem_cons_succ, List.getElem_cons_zero]
    refine wpAnyH_take (i := 2) (v := undef) rfl (by kernel_rfl) (by kernel_rfl) (by kernel_rfl) (fun _ _ _ h => h) (Or.inr (And.intro (by kernel_rfl) rfl)) trivial ?r2_107
    try simp only [Act.put, List.setIfInBounds_toArray, List.set_cons_zero, List.set_cons_succ, List.getElem_toArray, List.getElem_cons_succ, List.getElem_cons_zero]
    refine wpAnyH_take (i := 3) (v := undef) rfl (by kernel_rfl) (by kernel_rfl) (by kernel_rfl) (fun _ _ _ h => h) (Or.inr (And.intro (by kernel_rfl) rfl)) trivial ?r3_108
    try simp only [Act.put, List.setIfInBounds_toArray, List.set_cons_zero, List.set_cons_succ, List.getElem_toArray, List.getElem_cons_succ, List.getElem_cons_zero]
    refine wpAnyH_take (i := 4) (v := undef) rfl (by kernel_rfl) (by kernel_rfl) (by kernel_rfl) (fun _ _ _ h => h) (Or.inr (And.intro (by kernel_rfl) rfl)) trivial ?r4_109
    try simp only [Act.put, List.setIfInBounds_toArray, List.set_cons_zero, List.set_cons_succ, List.getElem_toArray, List.getElem_cons_succ, List.getElem_cons_zero]
    refine wpAnyH_take (i := 5) (v := undef) rfl (by kernel_rfl) (by kernel_rfl) (by kernel_rfl) (fun _ _ _ h => h) (Or.inr (And.intro (by kernel_rfl) rfl)) trivial ?r5_110
    try simp only [Act.put, List.setIfInBounds_toArray, List.set_cons_zero, List.set_cons_succ, List.getElem_toArray, List.getElem_cons_succ, List.getElem_cons_zero]
    refine wpAnyH_take (i := 6) (v := undef) rfl (by kernel_rfl) (by kernel_rfl) (by kernel_rfl) (fun _ _ _ h => h) (Or.inr (And.intro (by kernel_rfl) rfl)) trivial ?r6_111
    try simp only [Act.put, List.setIfInBounds_toArray, List.set_cons_zero, List.set_cons_succ, List.getElem_toArray, List.getElem_cons_succ, List.getElem_cons_zero]
    refine wpAnyH_take (i := 7) (v := ?v7_112) rfl (by kernel_rfl) (by kernel_rfl) (by kernel_rfl) (fun _ _ _ h => h) (Or.inl (And.intro (by kernel_rfl) ?q7_112)) trivial ?r7_112; (case q7_112 => (intro w _; (try dsimp only); (try go_simp); (try with_reducible rfl)))
    try simp only [Act.put, List.setIfInBounds_toArray, List.set_cons_zero, List.set_cons_succ, List.getElem_toArray, List.getElem_cons_succ, List.getElem_cons_zero]
    refine wpAnyH_take (i := 8) (v := ?v8_113) rfl (by kernel_rfl) (by kernel_rfl) (by kernel_rfl) (fun _ _ _ h => h) (Or.inl (And.intro (by kernel_rfl) ?q8_113)) trivial ?r8_113; (case q8_113 => (intro w _; (try dsimp only); (try go_simp); (try with_reducible rfl)))
    try simp only [Act.put, List.setIfInBounds_toArray, List.set_cons_zero, List.set_cons_succ, List.getElem_toArray, List.getElem_cons_succ, List.getElem_cons_zero]
    refine wpAnyH_take (i := 9) (v := ?v9_114) rfl (by kernel_rfl) (by kernel_rfl) (by kernel_rfl) (fun _ _ _ h => h) (Or.inl (And.intro (by kernel_rfl) ?q9_114)) trivial ?r9_114; (case q9_114 => (intro w _; (try dsimp only); (try go_simp); (try with_reducible rfl)))
    try simp only [Act.put, List.setIfInBounds_toArray, List.set_cons_zero, List.set_cons_succ, List.getElem_toArray, List.getElem_cons_succ, List.getElem_cons_zero]
    refine wpAnyH_take (i := 10) (v := ?v10_115) rfl (by kernel_rfl) (by kernel_rfl) (by kernel_rfl) (fun _ _ _ h => h) (Or.inl (And.intro (by kernel_rfl) ?q10_115)) trivial ?r10_115; (case q10_115 => (intro w _; (try dsimp only); (try go_simp); (try with_reducible rfl)))
    try simp only [Act.put, List.setIfInBounds_toArray, List.set_cons_zero, List.set_cons_succ, List.getElem_toArray, List.getElem_cons_succ, List.getElem_cons_zero]
    refine wpAnyH_take (i := 11) (v := ?v11_116) rfl (by kernel_rfl) (by kernel_rfl) (by kernel_rfl) (fun _ _ _ h => h) (Or.inl (And.intro (by kernel_rfl) ?q11_116)) trivial ?r11_116; (case q11_116 => (intro w _; (try dsimp only); (try go_simp); (try with_reducible rfl)))
    try simp only [Act.put, List.setIfInBounds_toArray, List.set_cons_zero, List.set_cons_succ, List.getElem_toArray, List.getElem_cons_succ, List.getElem_cons_zero]
    refine wpAnyH_take (i := 12) (v := ?v12_117) rfl (by kernel_rfl) (by kernel_rfl) (by kernel_rfl) (fun _ _ _ h => h) (Or.inl (And.intro (by kernel_rfl) ?q12_117)) trivial ?r12_117; (case q12_117 => (intro w _; (try dsimp only); (try go_simp); (try with_reducible rfl)))
    try simp only [Act.put, List.setIfInBounds_toArray, List.set_cons_zero, List.set_cons_succ, List.getElem_toArray, List.getElem_cons_succ, List.getElem_cons_zero]
    refine wpAnyH_take (i := 13) (v := ?v13_118) rfl (by kernel_rfl) (by kernel_rfl) (by kernel_rfl) (fun _ _ _ h => h) (Or.inl (And.intro (by kernel_rfl) ?q13_118)) trivial ?r13_118; (case q13_118 => (intro w _; (try dsimp only); (try go_simp); (try with_reducible rfl)))
    try simp only [Act.put, List.setIfInBounds_toArray, List.set_cons_zero, List.set_cons_succ, List.getElem_toArray, List.getElem_cons_succ, List.getElem_cons_zero]
    refine wpAnyH_take (i := 14) (v := ?v14_119) rfl (by kernel_rfl) (by kernel_rfl) (by kernel_rfl) (fun _ _ _ h => h) (Or.inl (And.intro (by kernel_rfl) ?q14_119)) trivial ?r14_119; (case q14_119 => (intro w _; (try dsimp only); (try go_simp); (try with_reducible rfl)))
    try simp only [Act.put, List.setIfInBounds_toArray, List.set_cons_zero, List.set_cons_succ, List.getElem_toArray, List.getElem_cons_succ, List.getElem_cons_zero]
    refine wpAnyH_take (i := 15) (v := ?v15_120) rfl (by kernel_rfl) (by kernel_rfl) (by kernel_rfl) (fun _ _ _ h => h) (Or.inl (And.intro (by kernel_rfl) ?q15_120)) trivial ?r15_120; (case q15_120 => (intro w _; (try dsimp only); (try go_simp); (try with_reducible rfl)))
    try simp only [Act.put, List.setIfInBounds_toArray, List.set_cons_zero, List.set_cons_succ, List.getElem_toArray, List.getElem_cons_succ, List.getElem_cons_zero]
    refine wpAnyH_take (i := 16) (v := ?v16_121) rfl (by kernel_rfl) (by kernel_rfl) (by kernel_rfl) (fun _ _ _ h => h) (Or.inl (And.intro (by kernel_rfl) ?q16_121)) trivial ?r16_121; (case q16_121 => (intro w _; (try dsimp only); (try go_simp); (try with_reducible rfl)))
    try simp only [Act.put, List.setIfInBounds_toArray, List.set_cons_zero, List.set_cons_succ, List.getElem_toArray, List.getElem_cons_succ, List.getElem_cons_zero]
    refine wpAnyH_take (i := 17) (v := ?v17_122) rfl (by kernel_rfl) (by kernel_rfl) (by kernel_rfl) (fun _ _ _ h => h) (Or.inl (And.intro (by kernel_rfl) ?q17_122)) trivial ?r17_122; (case q17_122 => (intro w _; (try dsimp only); (try go_simp); (try with_reducible rfl)))
    try simp only [Act.put, List.setIfInBounds_toArray, List.set_cons_zero, List.set_cons_succ, List.getElem_toArray, List.getElem_cons_succ, List.getElem_cons_zero]
    refine wpAnyH_take (i := 18) (v := ?v18_123) rfl (by kernel_rfl) (by kernel_rfl) (by kernel_rfl) (fun _ _ _ h => h) (Or.inl (And.intro (by kernel_rfl) ?q18_123)) trivial ?r18_123; (case q18_123 => (intro w _; (try dsimp only); (try go_simp); (try with_reducible rfl)))
    try simp only [Act.put, List.setIfInBounds_toArray, List.set_cons_zero, List.set_cons_succ, List.getElem_toArray, List.getElem_cons_succ, List.getElem_cons_zero]
    refine wpAnyH_take (i := 19) (v := ?v19_124) rfl (by kernel_rfl) (by kernel_rfl) (by kernel_rfl) (fun _ _ _ h => h) (Or.inl (And.intro (by kernel_rfl) ?q19_124)) trivial ?r19_124; (case q19_124 => (intro w _; (try dsimp only); (try go_simp); (try with_reducible rfl)))
    try simp only [Act.put, List.setIfInBounds_toArray, List.set_cons_zero, List.set_cons_succ, List.getElem_toArray, List.getElem_cons_succ, List.getElem_cons_zero]
    refine wpAnyH_take (i := 20) (v := ?v20_125) rfl (by kernel_rfl) (by kernel_rfl) (by kernel_rfl) (fun _ _ _ h => h) (Or.inl (And.intro (by kernel_rfl) ?q20_125)) trivial ?r20_125; (case q20_125 => (intro w _; (try dsimp only); (try go_simp); (try with_reducible rfl)))
    try simp only [Act.put, List.setIfInBounds_toArray, List.set_cons_zero, List.set_cons_succ, List.getElem_toArray, List.getElem_cons_succ, List.getElem_cons_zero]
    refine wpAnyH_take (i := 21) (v := ?v21_126) rfl (by kernel_rfl) (by kernel_rfl) (by kernel_rfl) (fun _ _ _ h => h) (Or.inl (And.intro (by kernel_rfl) ?q21_126)) trivial ?r21_126; (case q21_126 => (intro w _; (try dsimp only); (try go_simp); (try with_reducible rfl)))
    try simp only [Act.put, List.setIfInBounds_toArray, List.set_cons_zero, List.set_cons_succ, List.getElem_toArray, List.getElem_cons_succ, List.getElem_cons_zero]
    refine wpAnyH_take (i := 22) (v := ?v22_127) rfl (by kernel_rfl) (by kernel_rfl) (by kernel_rfl) (fun _ _ _ h => h) (Or.inl (And.intro (by kernel_rfl) ?q22_127)) trivial ?r22_127; (case q22_127 => (intro w _; (try dsimp only); (try go_simp); (try with_reducible rfl)))
    try simp only [Act.put, List.setIfInBounds_toArray, List.set_cons_zero, List.set_cons_succ, List.getElem_toArray, List.getElem_cons_succ, List.getElem_cons_zero]
    refine wpAnyH_ready (rs := [23]) (by kernel_rfl) (by simp) ?_
    refine AllReadyH.cons rfl (fun K hK => ?_) AllReadyH.nil
    rw [if_pos (by kernel_rfl)]
    (try simp only [List.getElem_toArray, List.getElem_cons_succ, List.getElem_cons_zero])
    go_simp
    (with_reducible refine (C0.out _ (KK.out.below (by (repeat' (first | with_reducible exact b10 | with_reducible exact Below.refl _ _ | with_reducible refine Below.setCell ?_ (by first | exact Nat.le_refl _ | (dsimp only; omega)) _ | with_reducible refine bstep ?_ (fresh_below _ _) | with_reducible refine Below.drew ?_))))).mono ?_)
    rintro e wJ23 ⟨rfl, bJ23⟩
    replace bJ23 : Below w.heap.size w wJ23 := by (refine bstep ?_ bJ23); (repeat' (first | with_reducible exact b10 | with_reducible exact Below.refl _ _ | with_reducible refine Below.setCell ?_ (by first | exact Nat.le_refl _ | (dsimp only; omega)) _ | with_reducible refine bstep ?_ (fresh_below _ _) | with_reducible refine Below.drew ?_))
    try go_wp2_with fail
    refine hK.out _ _ trivial (fun _ => ?_)
    clear hK K
    try simp only [Act.put, List.setIfInBounds_toArray, List.set_cons_zero, List.set_cons_succ, List.getElem_toArray, List.getElem_cons_succ, List.getElem_cons_zero]
    refine wpAnyH_take (i := 24) (v := ?v24_129) rfl (by kernel_rfl) (by kernel_rfl) (by kernel_rfl) (fun _ _ _ h => h) (Or.inl (And.intro (by kernel_rfl) ?q24_129)) trivial ?r24_129; (case q24_129 => (intro w _; (try dsimp only); (try go_simp); (try with_reducible rfl)))
    try simp only [Act.put, List.setIfInBounds_toArray, List.set_cons_zero, List.set_cons_succ, List.getElem_toArray, List.getElem_cons_succ, List.getElem_cons_zero]
    refine wpAnyH_take (i := 25) (v := ?v25_130) rfl (by kernel_rfl) (by kernel_rfl) (by kernel_rfl) (fun _ _ _ h => h) (Or.inl (And.intro (by kernel_rfl) ?q25_130)) trivial ?r25_130; (case q25_130 => (intro w _; (try dsimp only); (try go_simp); (try with_reducible rfl)))
    try simp only [Act.put, List.setIfInBounds_toArray, List.set_cons_zero, List.set_cons_succ, List.getElem_toArray, List.getElem_cons_succ, List.getElem_cons_zero]
    refine wpAnyH_done (by kernel_rfl) ?_ _
    go_wp2
    go_ret
    exact ⟨rfl, (by (repeat' (first | with_reducible exact bJ23 | with_reducible exact Below.refl _ _ | with_reducible refine Below.setCell ?_ (by first | exact Nat.le_refl _ | (dsimp only; omega)) _ | with_reducible refine bstep ?_ (fresh_below _ _) | with_reducible refine Below.drew ?_)))⟩

set_option maxRecDepth 100000 in
set_option maxHeartbeats 8000000 in
theorem IcmpID_pC (s t tv tt : ByteArray) (id : Int) (w : World) (K0 : Kinds w) (h8 : 8 ≤ s.size) (h6 : s.size ≤ 600) (x1 x2 x3 y1 y2 y3 q u : Int) (x4 x5 y4 y5 : ByteArray) (b : Bool)
    
    (p2 : ∀ w, Calls Tryd.prog 13 #[.string s] w (Ret (.tuple #[.agg #[.int .u8 x1, .int .u8 x2, .int .u16 x3, .string x4, .string x5], .bool true]) w))
    (p3 : ∀ w, Calls Tryd.prog 23 #[.agg #[.int .u8 x1, .int .u8 x2, .int .u16 x3, .string x4, .string x5], .int .u16 id] w (Ret (.agg #[.int .u8 y1, .int .u8 y2, .int .u16 y3, .string y4, .string y5]) w))
    (p4 : ∀ w, Calls Tryd.prog 21 #[.agg #[.int .u8 x1, .int .u8 x2, .int .u16 x3, .string x4, .string x5]] w (Ret (.int .u16 q) w))
    (p5 : ∀ w, Calls Tryd.prog 25 #[.int .u16 x3, .int .u16 q, .int .u16 id] w (Ret (.int .u16 u) w))
    (p6 : ∀ w, Calls Tryd.prog 15 #[.agg #[.int .u8 y1, .int .u8 y2, .int .u16 u, .string y4, .string y5]] w (Ret (.tuple #[.string t, .int .i64 0]) w))
    (p7 : ∀ w, Calls Tryd.prog 26 #[.string s, .string { data := #[0] }] w (Ret (.string tv) w))
    (p8 : ∀ w, Calls Tryd.prog 26 #[.string t, .string { data := #[0] }] w (Ret (.string tt) w))
    (p9 : ∀ w, Calls Tryd.prog 9 #[.string t] w (Ret (.bool b) w))
    (p10 : ∀ w, Calls Tryd.prog 9 #[.string s] w (Ret (.bool b) w))
    (hz : t.size = s.size) (q6 : ((t.extract 6 s.size).toList == (s.extract 6 s.size).toList) = true)
    (hk : (tv.toList == []) = false ∧ (tt.toList == []) = false) :
    Calls Tryd.prog 7 #[.string s, .bool false, .int .u16 id] w (Ret (.bool true) w) := by
  have c0 := fun w k => echoed w k
  have KK := hide K0; have C0 := hide c0; have P2 := hide p2; have P3 := hide p3; have P4 := hide p4; have P5 := hide p5; have P6 := hide p6; have P7 := hide p7; have P8 := hide p8; have P9 := hide p9; have P10 := hide p10
  clear K0 c0 p2 p3 p4 p5 p6 p7 p8 p9 p10
  have m1 : ¬ (s.size : Int) < 8 := by omega
  have m2 : ¬ 600 < (s.size : Int) := by omega
  have m3 : (6 : Int) ≤ (s.size : Int) := by omega
  have qb : (b == b) = true := by simp
  obtain ⟨k1, k2⟩ := hk
  go_enter Tryd.func7, Tryd.ntmps7
  go_wp2_with fail
  (with_reducible refine (P2.out _).mono ?_)
  rintro e w2 ⟨rfl, b2⟩
  replace b2 : Below w.heap.size w w2 := by (refine bstep ?_ b2); (repeat' (first | with_reducible exact Below.refl _ _ | with_reducible refine Below.setCell ?_ (by first | exact Nat.le_refl _ | (dsimp only; omega)) _ | with_reducible refine bstep ?_ (fresh_below _ _) | with_reducible refine Below.drew ?_))
  have z2 : w.heap.size ≤ w2.heap.size := b2.size
  have dm := Cells.new w2 #[.int .u8 x1, .int .u8 x2, .int .u16 x3, .string x4, .string x5] 29
  have dx := dm
  have xdx_0 : (w2.alloc (.cells #[.int .u8 x1, .int .u8 x2, .int .u16 x3, .string x4, .string x5] 29)).cell? ⟨w2.heap.size, 0, none⟩ = some (.int .u8 x1) := dx.at_ 0
  have xdx_1 : (w2.alloc (.cells #[.int .u8 x1, .int .u8 x2, .int .u16 x3, .string x4, .string x5] 29)).cell? ⟨w2.heap.size, 1, none⟩ = some (.int .u8 x2) := dx.at_ 1
  have xdx_2 : (w2.alloc (.cells #[.int .u8 x1, .int .u8 x2, .int .u16 x3, .string x4, .string x5] 29)).cell? ⟨w2.heap.size, 2, none⟩ = some (.int .u16 x3) := dx.at_ 2
  have xdx_3 : (w2.alloc (.cells #[.int .u8 x1, .int .u8 x2, .int .u16 x3, .string x4, .string x5] 29)).cell? ⟨w2.heap.size, 3, none⟩ = some (.string x4) := dx.at_ 3
  have xdx_4 : (w2.alloc (.cells #[.int .u8 x1, .int .u8 x2, .int .u16 x3, .string x4, .string x5] 29)).cell? ⟨w2.heap.size, 4, none⟩ = some (.string x5) := dx.at_ 4
  go_wp2_with fail
  (with_reducible refine (P3.out _).mono ?_)
  rintro e w3 ⟨rfl, b3⟩
  replace dm := Cells.up dm (by (repeat' (first | with_reducible exact Below.refl _ _ | with_reducible refine bstep ?_ (fresh_below _ _) | with_reducible refine Below.drew ?_))) b3
  replace b3 : Below w.heap.size w w3 := by (refine bstep ?_ b3); (repeat' (first | with_reducible exact b2 | with_reducible exact Below.refl _ _ | with_reducible refine Below.setCell ?_ (by first | exact Nat.le_refl _ | (dsimp only; omega)) _ | with_reducible refine bstep ?_ (fresh_below _ _) | with_reducible refine Below.drew ?_))
  have z3 : w.heap.size ≤ w3.heap.size := b3.size
  have nlt : w2.heap.size < w3.heap.size := dm.lt
  replace dm := Cells.below (fresh_below w3 (.cells #[.int .u8 y1, .int .u8 y2, .int .u16 y3, .string y4, .string y5] 29)) dm
  have dn := Cells.new w3 #[.int .u8 y1, .int .u8 y2, .int .u16 y3, .string y4, .string y5] 29
  have b4 : Below w.heap.size w (w3.alloc (.cells #[.int .u8 y1, .int .u8 y2, .int .u16 y3, .string y4, .string y5] 29)) := bstep b3 (fresh_below _ _)
  have n1 : w2.heap.size ≠ w3.heap.size := Nat.ne_of_lt nlt
  go_wp2_with fail
  generalize w3.alloc (.cells #[.int .u8 y1, .int .u8 y2, .int .u16 y3, .string y4, .string y5] 29) = W at *
  have fS := hide (fun (zX : World) (hX : Cells zX w2.heap.size #[.int .u8 x1, .int .u8 x2, .int .u16 x3, .string x4, .string x5] 29) => (show World.cell? zX ⟨w2.heap.size, 0, none⟩ = some (.int .u8 x1) ∧ World.cell? zX ⟨w2.heap.size, 1, none⟩ = some (.int .u8 x2) ∧ World.cell? zX ⟨w2.heap.size, 2, none⟩ = some (.int .u16 x3) ∧ World.cell? zX ⟨w2.heap.size, 3, none⟩ = some (.string x4) ∧ World.cell? zX ⟨w2.heap.size, 4, none⟩ = some (.string x5) from ⟨hX.at_ 0, hX.at_ 1, hX.at_ 2, hX.at_ 3, hX.at_ 4⟩))
  have HM := hide dm
  go_region_held3 (fun zW => World.cell? zW ⟨w2.heap.size, 0, none⟩ = some (.int .u8 x1) ∧ World.cell? zW ⟨w2.heap.size, 1, none⟩ = some (.int .u8 x2) ∧ World.cell? zW ⟨w2.heap.size, 2, none⟩ = some (.int .u16 x3) ∧ World.cell? zW ⟨w2.heap.size, 3, none⟩ = some (.string x4) ∧ World.cell? zW ⟨w2.heap.size, 4, none⟩ = some (.string x5)) (((try dsimp only); with_reducible refine fS.out _ ?_; (repeat' (first | with_reducible exact HM.out | with_reducible assumption | with_reducible refine Cells.drew ?_ | with_reducible refine Cells.other ?_ n1 _ _))))
    (first | (go_at_call 21; (with_reducible refine (P4.out _).mono ?_); rintro e wa ⟨rfl, ba⟩; have Da : Cells wa w2.heap.size #[.int .u8 x1, .int .u8 x2, .int .u16 x3, .string x4, .string x5] 29 := Cells.below ba dm; have Ea : Cells wa w3.heap.size #[.int .u8 y1, .int .u8 y2, .int .u16 y3, .string y4, .string y5] 29 := Cells.below ba dn) | (go_at_call 25; (with_reducible refine (P5.out _).mono ?_); rintro e wb ⟨rfl, bb⟩; have Db := Cells.below bb Da; have Eb := Cells.below bb Ea; have E0 : wb.cell? ⟨w3.heap.size, 2, none⟩ = some (.int .u16 y3) := Eb.at_ 2; have E1 := Eb.free 2))
  all_goals
    have b5 : Below w.heap.size w wb := bstep (bstep b4.drew ba) bb
    have d7 : Cells (wb.setCell ⟨w3.heap.size, 2, none⟩ (.int .u16 u)) w3.heap.size #[.int .u8 y1, .int .u8 y2, .int .u16 u, .string y4, .string y5] 29 := Eb.set_ 2 (.int .u16 u)
    have b7 : Below w.heap.size w (wb.setCell ⟨w3.heap.size, 2, none⟩ (.int .u16 u)) := Below.setCell b5 (p := ⟨w3.heap.size, 2, none⟩) b3.size _
    clear Da Ea Db Eb E0 E1 ba bb b5
    generalize (wb.setCell ⟨w3.heap.size, 2, none⟩ (.int .u16 u)) = W7 at *
    have xd7_0 : W7.cell? ⟨w3.heap.size, 0, none⟩ = some (.int .u8 y1) := d7.at_ 0
    have xd7_1 : W7.cell? ⟨w3.heap.size, 1, none⟩ = some (.int .u8 y2) := d7.at_ 1
    have xd7_2 : W7.cell? ⟨w3.heap.size, 2, none⟩ = some (.int .u16 u) := d7.at_ 2
    have xd7_3 : W7.cell? ⟨w3.heap.size, 3, none⟩ = some (.string y4) := d7.at_ 3
    have xd7_4 : W7.cell? ⟨w3.heap.size, 4, none⟩ = some (.string y5) := d7.at_ 4
    go_wp2_with fail
    (with_reducible refine (P6.out _).mono ?_)
    rintro e w8 ⟨rfl, b8⟩
    replace b8 : Below w.heap.size w w8 := bstep b7 b8
    have z8 : w.heap.size ≤ w8.heap.size := b8.size
    clear xd7_0 xd7_1 xd7_2 xd7_3 xd7_4 d7
    go_wp2_with fail
    (with_reducible refine (P7.out _).mono ?_)
    rintro e w9 ⟨rfl, b9⟩
    replace b9 : Below w.heap.size w w9 := by (refine bstep ?_ b9); (repeat' (first | with_reducible exact b8 | with_reducible exact Below.refl _ _ | with_reducible refine Below.setCell ?_ (by first | exact Nat.le_refl _ | (dsimp only; omega)) _ | with_reducible refine bstep ?_ (fresh_below _ _) | with_reducible refine Below.drew ?_))
    have z9 : w.heap.size ≤ w9.heap.size := b9.size
    go_wp2_with fail
    (with_reducible refine (P8.out _).mono ?_)
    rintro e w10 ⟨rfl, b10⟩
    replace b10 : Below w.heap.size w w10 := by (refine bstep ?_ b10); (repeat' (first | with_reducible exact b9 | with_reducible exact Below.refl _ _ | with_reducible refine Below.setCell ?_ (by first | exact Nat.le_refl _ | (dsimp only; omega)) _ | with_reducible refine bstep ?_ (fresh_below _ _) | with_reducible refine Below.drew ?_))
    have z10 : w.heap.size ≤ w10.heap.size := b10.size
    go_wp2_with fail
    refine wp_region_held_drew (S := fun _ => True) (by kernel_rfl) trivial (fun _ => ?_)
    refine wpAnyH_take (i := 0) (v := ?v0_131) rfl (by kernel_rfl) (by kernel_rfl) (by kernel_rfl) (fun _ _ _ h => h) (Or.inl (And.intro (by kernel_rfl) ?q0_131)) trivial ?r0_131; (case q0_131 => (intro w _; (try dsimp only); (try go_simp); (try with_reducible rfl)))
    try simp only [Act.put, List.setIfInBounds_toArray, List.set_cons_zero, List.set_cons_succ, List.getElem_toArray, List.getElem_cons_succ, List.getElem_cons_zero]
    refine wpAnyH_take (i := 1) (v := ?v1_132) rfl (by kernel_rfl) (by kernel_rfl) (by kernel_rfl) (fun _ _ _ h => h) (Or.inl (And.intro (by kernel_rfl) ?q1_132)) trivial ?r1_132; (case q1_132 => (intro w _; (try dsimp only); (try go_simp); (try with_reducible rfl)))
    try simp only [Act.put, List.setIfInBounds_toArray, List.set_cons_zero, List.set_cons_succ, List.getElem_toArray, List.getElem_cons_succ, List.getElem_cons_zero]
    refine wpAnyH_take (i := 2) (v := ?v2_133) rfl (by kernel_rfl) (by kernel_rfl) (by kernel_rfl) (fun _ _ _ h => h) (Or.inl (And.intro (by kernel_rfl) ?q2_133)) trivial ?r2_133; (case q2_133 => (intro w _; (try dsimp only); (try go_simp); (try with_reducible rfl)))
    try simp only [Act.put, List.setIfInBounds_toArray, List.set_cons_zero, List.set_cons_succ, List.getElem_toArray, List.getElem_cons_succ, List.getElem_cons_zero]
    refine wpAnyH_take (i := 4) (v := ?v4_134) rfl (by kernel_rfl) (by kernel_rfl) (by kernel_rfl) (fun _ _ _ h => h) (Or.inl (And.intro (by kernel_rfl) ?q4_134)) trivial ?r4_134; (case q4_134 => (intro w _; (try dsimp only); (try go_simp); (try with_reducible rfl)))
    try simp only [Act.put, List.setIfInBounds_toArray, List.set_cons_zero, List.set_cons_succ, List.getElem_toArray, List.getElem_cons_succ, List.getElem_cons_zero]
    refine wpAnyH_ready (rs := [3]) (by kernel_rfl) (by simp) ?_
    refine AllReadyH.cons rfl (fun K hK => ?_) AllReadyH.nil
    rw [if_pos (by kernel_rfl)]
    (try simp only [List.getElem_toArray, List.getElem_cons_succ, List.getElem_cons_zero])
    go_simp
    (with_reducible refine (P9.out _).mono ?_)
    rintro e wJ3 ⟨rfl, bJ3⟩
    replace bJ3 : Below w.heap.size w wJ3 := by (refine bstep ?_ bJ3); (repeat' (first | with_reducible exact b10 | with_reducible exact Below.refl _ _ | with_reducible refine Below.setCell ?_ (by first | exact Nat.le_refl _ | (dsimp only; omega)) _ | with_reducible refine bstep ?_ (fresh_below _ _) | with_reducible refine Below.drew ?_))
    try go_wp2_with fail
    refine hK.out _ _ trivial (fun _ => ?_)
    clear hK K
    try simp only [Act.put, List.setIfInBounds_toArray, List.set_cons_zero, List.set_cons_succ, List.getElem_toArray, List.getElem_cons_succ, List.getElem_cons_zero]
    refine wpAnyH_ready (rs := [5]) (by kernel_rfl) (by simp) ?_
    refine AllReadyH.cons rfl (fun K hK => ?_) AllReadyH.nil
    rw [if_pos (by kernel_rfl)]
    (try simp only [List.getElem_toArray, List.getElem_cons_succ, List.getElem_cons_zero])
    go_simp
    (with_reducible refine (P10.out _).mono ?_)
    rintro e wJ5 ⟨rfl, bJ5⟩
    replace bJ5 : Below w.heap.size w wJ5 := by (refine bstep ?_ bJ5); (repeat' (first | with_reducible exact bJ3 | with_reducible exact Below.refl _ _ | with_reducible refine Below.setCell ?_ (by first | exact Nat.le_refl _ | (dsimp only; omega)) _ | with_reducible refine bstep ?_ (fresh_below _ _) | with_reducible refine Below.drew ?_))
    try go_wp2_with fail
    refine hK.out _ _ trivial (fun _ => ?_)
    clear hK K
    try simp only [Act.put, List.setIfInBounds_toArray, List.set_cons_zero, List.set_cons_succ, List.getElem_toArray, List.getElem_cons_succ, List.getElem_cons_zero]
    refine wpAnyH_take (i := 6) (v := ?v6_137) rfl (by kernel_rfl) (by kernel_rfl) (by kernel_rfl) (fun _ _ _ h => h) (Or.inl (And.intro (by kernel_rfl) ?q6_137)) trivial ?r6_137; (case q6_137 => (intro w _; (try dsimp only); (try go_simp); (try with_reducible rfl)))
    try simp only [Act.put, List.setIfInBounds_toArray, List.set_cons_zero, List.set_cons_succ, List.getElem_toArray, List.getElem_cons_succ, List.getElem_cons_zero]
    refine wpAnyH_take (i := 7) (v := ?v7_138) rfl (by kernel_rfl) (by kernel_rfl) (by kernel_rfl) (fun _ _ _ h => h) (Or.inl (And.intro (by kernel_rfl) ?q7_138)) trivial ?r7_138; (case q7_138 => (intro w _; (try dsimp only); (try go_simp); (try with_reducible rfl)))
    try simp only [Act.put, List.setIfInBounds_toArray, List.set_cons_zero, List.set_cons_succ, List.getElem_toArray, List.getElem_cons_succ, List.getElem_cons_zero]
    refine wpAnyH_take (i := 8) (v := ?v8_139) rfl (by kernel_rfl) (by kernel_rfl) (by kernel_rfl) (fun _ _ _ h => h) (Or.inl (And.intro (by kernel_rfl) ?q8_139)) trivial ?r8_139; (case q8_139 => (intro w _; (try dsimp only); (try go_simp); (try with_reducible rfl)))
    try simp only [Act.put, List.setIfInBounds_toArray, List.set_cons_zero, List.set_cons_succ, List.getElem_toArray, List.getElem_cons_succ, List.getElem_cons_zero]
    refine wpAnyH_take (i := 9) (v := ?v9_140) rfl (by kernel_rfl) (by kernel_rfl) (by kernel_rfl) (fun _ _ _ h => h) (Or.inl (And.intro (by kernel_rfl) ?q9_140)) trivial ?r9_140; (case q9_140 => (intro w _; (try dsimp only); (try go_simp); (try with_reducible rfl)))
    try simp only [Act.put, List.setIfInBounds_toArray, List.set_cons_zero, List.set_cons_succ, List.getElem_toArray, List.getElem_cons_succ, List.getElem_cons_zero]
    refine wpAnyH_take (i := 10) (v := ?v10_141) rfl (by kernel_rfl) (by kernel_rfl) (by kernel_rfl) (fun _ _ _ h => h) (Or.inl (And.intro (by kernel_rfl) ?q10_141)) trivial ?r10_141; (case q10_141 => (intro w _; (try dsimp only); (try go_simp); (try with_reducible rfl)))
    try simp only [Act.put, List.setIfInBounds_toArray, List.set_cons_zero, List.set_cons_succ, List.getElem_toArray, List.getElem_cons_succ, List.getElem_cons_zero]
    refine wpAnyH_take (i := 11) (v := ?v11_142) rfl (by kernel_rfl) (by kernel_rfl) (by kernel_rfl) (fun _ _ _ h => h) (Or.inl (And.intro (by kernel_rfl) ?q11_142)) trivial ?r11_142; (case q11_142 => (intro w _; (try dsimp only); (try go_simp); (try with_reducible rfl)))
    try simp only [Act.put, List.setIfInBounds_toArray, List.set_cons_zero, List.set_cons_succ, List.getElem_toArray, List.getElem_cons_succ, List.getElem_cons_zero]
    refine wpAnyH_take (i := 12) (v := ?v12_143) rfl (by kernel_rfl) (by kernel_rfl) (by kernel_rfl) (fun _ _ _ h => h) (Or.inl (And.intro (by kernel_rfl) ?q12_143)) trivial ?r12_143; (case q12_143 => (intro w _; (try dsimp only); (try go_simp); (try with_reducible rfl)))
    try simp only [Act.put, List.setIfInBounds_toArray, List.set_cons_zero, List.set_cons_succ, List.getElem_toArray, List.getElem_cons_succ, List.getElem_cons_zero]
    refine wpAnyH_take (i := 13) (v := ?v13_144) rfl (by kernel_rfl) (by kernel_rfl) (by kernel_rfl) (fun _ _ _ h => h) (Or.inl (And.intro (by kernel_rfl) ?q13_144)) trivial ?r13_144; (case q13_144 => (intro w _; (try dsimp only); (try go_simp); (try with_reducible rfl)))
    try simp only [Act.put, List.setIfInBounds_toArray, List.set_cons_zero, List.set_cons_succ, List.getElem_toArray, List.getElem_cons_succ, List.getElem_cons_zero]
    refine wpAnyH_take (i := 14) (v := ?v14_145) rfl (by kernel_rfl) (by kernel_rfl) (by kernel_rfl) (fun _ _ _ h => h) (Or.inl (And.intro (by kernel_rfl) ?q14_145)) trivial ?r14_145; (case q14_145 => (intro w _; (try dsimp only); (try go_simp); (try with_reducible rfl)))
    try simp only [Act.put, List.setIfInBounds_toArray, List.set_cons_zero, List.set_cons_succ, List.getElem_toArray, List.getElem_cons_succ, List.getElem_cons_zero]
    refine wpAnyH_take (i := 15) (v := ?v15_146) rfl (by kernel_rfl) (by kernel_rfl) (by kernel_rfl) (fun _ _ _ h => h) (Or.inl (And.intro (by kernel_rfl) ?q15_146)) trivial ?r15_146; (case q15_146 => (intro w _; (try dsimp only); (try go_simp); (try with_reducible rfl)))
    try simp only [Act.put, List.setIfInBounds_toArray, List.set_cons_zero, List.set_cons_succ, List.getElem_toArray, List.getElem_cons_succ, List.getElem_cons_zero]
    refine wpAnyH_take (i := 16) (v := ?v16_147) rfl (by kernel_rfl) (by kernel_rfl) (by kernel_rfl) (fun _ _ _ h => h) (Or.inl (And.intro (by kernel_rfl) ?q16_147)) trivial ?r16_147; (case q16_147 => (intro w _; (try dsimp only); (try go_simp); (try with_reducible rfl)))
    try simp only [Act.put, List.setIfInBounds_toArray, List.set_cons_zero, List.set_cons_succ, List.getElem_toArray, List.getElem_cons_succ, List.getElem_cons_zero]
    refine wpAnyH_take (i := 17) (v := ?v17_148) rfl (by kernel_rfl) (by kernel_rfl) (by kernel_rfl) (fun _ _ _ h => h) (Or.inl (And.intro (by kernel_rfl) ?q17_148)) trivial ?r17_148; (case q17_148 => (intro w _; (try dsimp only); (try go_simp); (try with_reducible rfl)))
    try simp only [Act.put, List.setIfInBounds_toArray, List.set_cons_zero, List.set_cons_succ, List.getElem_toArray, List.getElem_cons_succ, List.getElem_cons_zero]
    refine wpAnyH_take (i := 18) (v := ?v18_149) rfl (by kernel_rfl) (by kernel_rfl) (by kernel_rfl) (fun _ _ _ h => h) (Or.inl (And.intro (by kernel_rfl) ?q18_149)) trivial ?r18_149; (case q18_149 => (intro w _; (try dsimp only); (try go_simp); (try with_reducible rfl)))
    try simp only [Act.put, List.setIfInBounds_toArray, List.set_cons_zero, List.set_cons_succ, List.getElem_toArray, List.getElem_cons_succ, List.getElem_cons_zero]
    refine wpAnyH_take (i := 19) (v := ?v19_150) rfl (by kernel_rfl) (by kernel_rfl) (by kernel_rfl) (fun _ _ _ h => h) (Or.inl (And.intro (by kernel_rfl) ?q19_150)) trivial ?r19_150; (case q19_150 => (intro w _; (try dsimp only); (try go_simp); (try with_reducible rfl)))
    try simp only [Act.put, List.setIfInBounds_toArray, List.set_cons_zero, List.set_cons_succ, List.getElem_toArray, List.getElem_cons_succ, List.getElem_cons_zero]
    refine wpAnyH_take (i := 20) (v := ?v20_151) rfl (by kernel_rfl) (by kernel_rfl) (by kernel_rfl) (fun _ _ _ h => h) (Or.inl (And.intro (by kernel_rfl) ?q20_151)) trivial ?r20_151; (case q20_151 => (intro w _; (try dsimp only); (try go_simp); (try with_reducible rfl)))
    try simp only [Act.put, List.setIfInBounds_toArray, List.set_cons_zero, List.set_cons_succ, List.getElem_toArray, List.getElem_cons_succ, List.getElem_cons_zero]
    refine wpAnyH_take (i := 21) (v := ?v21_152) rfl (by kernel_rfl) (by kernel_rfl) (by kernel_rfl) (fun _ _ _ h => h) (Or.inl (And.intro (by kernel_rfl) ?q21_152)) trivial ?r21_152; (case q21_152 => (intro w _; (try dsimp only); (try go_simp); (try with_reducible rfl)))
    try simp only [Act.put, List.setIfInBounds_toArray, List.set_cons_zero, List.set_cons_succ, List.getElem_toArray, List.getElem_cons_succ, List.getElem_cons_zero]
    refine wpAnyH_take (i := 22) (v := ?v22_153) rfl (by kernel_rfl) (by kernel_rfl) (by kernel_rfl) (fun _ _ _ h => h) (Or.inl (And.intro (by kernel_rfl) ?q22_153)) trivial ?r22_153; (case q22_153 => (intro w _; (try dsimp only); (try go_simp); (try with_reducible rfl)))
    try simp only [Act.put, List.setIfInBounds_toArray, List.set_cons_zero, List.set_cons_succ, List.getElem_toArray, List.getElem_cons_succ, List.getElem_cons_zero]
    refine wpAnyH_ready (rs := [23]) (by kernel_rfl) (by simp) ?_
    refine AllReadyH.cons rfl (fun K hK => ?_) AllReadyH.nil
    rw [if_pos (by kernel_rfl)]
    (try simp only [List.getElem_toArray, List.getElem_cons_succ, List.getElem_cons_zero])
    go_simp
    (with_reducible refine (C0.out _ (KK.out.below (by (repeat' (first | with_reducible exact bJ5 | with_reducible exact Below.refl _ _ | with_reducible refine Below.setCell ?_ (by first | exact Nat.le_refl _ | (dsimp only; omega)) _ | with_reducible refine bstep ?_ (fresh_below _ _) | with_reducible refine Below.drew ?_))))).mono ?_)
    rintro e wJ23 ⟨rfl, bJ23⟩
    replace bJ23 : Below w.heap.size w wJ23 := by (refine bstep ?_ bJ23); (repeat' (first | with_reducible exact bJ5 | with_reducible exact Below.refl _ _ | with_reducible refine Below.setCell ?_ (by first | exact Nat.le_refl _ | (dsimp only; omega)) _ | with_reducible refine bstep ?_ (fresh_below _ _) | with_reducible refine Below.drew ?_))
    try go_wp2_with fail
    refine hK.out _ _ trivial (fun _ => ?_)
    clear hK K
    try simp only [Act.put, List.setIfInBounds_toArray, List.set_cons_zero, List.set_cons_succ, List.getElem_toArray, List.getElem_cons_succ, List.getElem_cons_zero]
    refine wpAnyH_take (i := 24) (v := ?v24_155) rfl (by kernel_rfl) (by kernel_rfl) (by kernel_rfl) (fun _ _ _ h => h) (Or.inl (And.intro (by kernel_rfl) ?q24_155)) trivial ?r24_155; (case q24_155 => (intro w _; (try dsimp only); (try go_simp); (try with_reducible rfl)))
    try simp only [Act.put, List.setIfInBounds_toArray, List.set_cons_zero, List.set_cons_succ, List.getElem_toArray, List.getElem_cons_succ, List.getElem_cons_zero]
    refine wpAnyH_take (i := 25) (v := ?v25_156) rfl (by kernel_rfl) (by kernel_rfl) (by kernel_rfl) (fun _ _ _ h => h) (Or.inl (And.intro (by kernel_rfl) ?q25_156)) trivial ?r25_156; (case q25_156 => (intro w _; (try dsimp only); (try go_simp); (try with_reducible rfl)))
    try simp only [Act.put, List.setIfInBounds_toArray, List.set_cons_zero, List.set_cons_succ, List.getElem_toArray, List.getElem_cons_succ, List.getElem_cons_zero]
    refine wpAnyH_done (by kernel_rfl) ?_ _
    go_wp2
    go_ret
    exact ⟨rfl, (by (repeat' (first | with_reducible exact bJ23 | with_reducible exact Below.refl _ _ | with_reducible refine Below.setCell ?_ (by first | exact Nat.le_refl _ | (dsimp only; omega)) _ | with_reducible refine bstep ?_ (fresh_below _ _) | with_reducible refine Below.drew ?_)))⟩
end Go.Proofs.YthmedjlecikbiaaDoor
