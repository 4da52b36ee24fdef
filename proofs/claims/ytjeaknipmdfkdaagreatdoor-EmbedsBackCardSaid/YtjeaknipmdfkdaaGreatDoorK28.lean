/- Several texts of this claim, one behind the other. -/
import Derived.Test.YtjeaknipmdfkdaaGreatDoorK2
import Derived.Test.YtjeaknipmdfkdaaGreatDoorK25
import Derived.Test.YtjeaknipmdfkdaaGreatDoorK22
import Derived.Test.YtjeaknipmdfkdaaGreatDoorK17
import Derived.Test.YtjeaknipmdfkdaaGreatDoorK15
import Derived.Test.YtjeaknipmdfkdaaGreatDoorK27
import Derived.Test.YtjeaknipmdfkdaaGreatDoorK19

section
/- taken, data, head, sumIn walked. -/
set_option linter.unusedVariables false
set_option linter.unusedSimpArgs false
namespace Go.Proofs.YtjeaknipmdfkdaaGreatDoor
open Go.RowKit
attribute [local go_sem] Oper.semAt_some

theorem Cells.others5 {w : World} {B b : Nat} {cs : Array Value} {T : TypeId} (h : Cells w b cs T) (hn : b ≠ B) (v0 v1 v2 v3 v4 : Value) : Cells (((((w.setCell ⟨B, 0, none⟩ v0).setCell ⟨B, 1, none⟩ v1).setCell ⟨B, 2, none⟩ v2).setCell ⟨B, 3, none⟩ v3).setCell ⟨B, 4, none⟩ v4) b cs T := ((((h.other hn 0 v0).other hn 1 v1).other hn 2 v2).other hn 3 v3).other hn 4 v4

set_option maxRecDepth 100000 in
set_option maxHeartbeats 2000000 in
theorem tt_why (s : ByteArray) (n t0 t1 t2 t3 t4 x0 x1 x2 x3 x4 x5 x6 x8 q r : Int) (x7 : Bool) (w : World) (K0 : Kinds w) (q1 : (r == 0) = false)
    (c0 : ∀ W, Kinds W → Calls Tryz.prog 9 #[.string s] W (Ret (.tuple #[.agg #[.int .u8 t0, .int .u32 t1, .int .u16 t2, .int .u32 t3, .int .u16 t4], .int .i64 r]) W))
    (c1 : ∀ W, Kinds W → Calls Tryz.prog 19 #[.string s] W (Ret (.tuple #[.agg #[.int .u8 x0, .int .u32 x1, .int .u16 x2, .int .u32 x3, .int .u16 x4, .int .i64 x5, .int .u8 x6, .bool x7, .int .u8 x8], .int .i64 q]) W)) :
    Calls Tryz.prog 14 #[.string s, .int .u8 n] w (Ret (.tuple #[.agg #[.int .u8 t0, .int .u32 t1, .int .u16 t2, .int .u32 t3, .int .u16 t4], .bool false]) w) := by
  have C0 := hide c0; have C1 := hide c1; have KK := hide K0
  clear c0 c1 K0
  go_enter Tryz.func14, Tryz.ntmps14
  have d0 := Cells.new w #[.int .u8 0, .int .u32 0, .int .u16 0, .int .u32 0, .int .u16 0] 33
  have l0 : Below w.heap.size w (w.alloc (.cells #[.int .u8 0, .int .u32 0, .int .u16 0, .int .u32 0, .int .u16 0] 33)) := (fresh_below _ _)
  have L0 := hide l0; have D0 := hide d0
  clear l0 d0
  go_upto_region 1 with fail
  have l0 := L0.out; have d0 := D0.out
  clear L0 D0
  generalize (w.alloc (.cells #[.int .u8 0, .int .u32 0, .int .u16 0, .int .u32 0, .int .u16 0] 33)) = wa at *
  obtain ⟨qd0_0, qd0_1, qd0_2, qd0_3, qd0_4⟩ := d0.q5
  have bb : Below wa.heap.size wa wa := Below.refl _ _
  have L0 := hide l0; have D0 := hide d0
  clear l0 d0
  have LT := hide (Cells.lt D0.out)
  clear bb qd0_0 qd0_1 qd0_2 qd0_3 qd0_4
  go_upto_region 2 with (go_at_call 9; (with_reducible refine (C0.out _ (KK.out.below L0.out)).mono ?_); rintro e2 w2 ⟨rfl, b2⟩)
  have nn := Cells.new w2 #[.int .u8 t0, .int .u32 t1, .int .u16 t2, .int .u32 t3, .int .u16 t4] 33
  have bn : Below wa.heap.size wa (w2.alloc (.cells #[.int .u8 t0, .int .u32 t1, .int .u16 t2, .int .u32 t3, .int .u16 t4] 33)) := bstep b2 (fresh_below _ _)
  replace D0 := hide (Cells.below bn D0.out)
  replace L0 := hide (bstep L0.out bn)
  have LO2 := hide b2.size
  clear bn b2
  have log5 : wa.heap.size ≤ w2.heap.size := LO2.out
  generalize w2.heap.size = g5 at nn log5 ⊢
  generalize (w2.alloc (.cells #[.int .u8 t0, .int .u32 t1, .int .u16 t2, .int .u32 t3, .int .u16 t4] 33)) = wb at *
  have kg5 := Cells.lt nn
  have D5 := hide nn
  clear nn
  go_upto_region 3 with (go_at_call 19; (with_reducible refine (C1.out _ (KK.out.below L0.out)).mono ?_); rintro e2 w2 ⟨rfl, b2⟩)
  have nn := Cells.new w2 #[.int .u8 x0, .int .u32 x1, .int .u16 x2, .int .u32 x3, .int .u16 x4, .int .i64 x5, .int .u8 x6, .bool x7, .int .u8 x8] 58
  have bn : Below wb.heap.size wb (w2.alloc (.cells #[.int .u8 x0, .int .u32 x1, .int .u16 x2, .int .u32 x3, .int .u16 x4, .int .i64 x5, .int .u8 x6, .bool x7, .int .u8 x8] 58)) := bstep b2 (fresh_below _ _)
  replace D0 := hide (Cells.below bn D0.out)
  replace D5 := hide (Cells.below bn D5.out)
  replace L0 := hide (bstep L0.out bn)
  have LO2 := hide b2.size
  clear bn b2
  have log6 : wb.heap.size ≤ w2.heap.size := LO2.out
  generalize w2.heap.size = g6 at nn log6 ⊢
  generalize (w2.alloc (.cells #[.int .u8 x0, .int .u32 x1, .int .u16 x2, .int .u32 x3, .int .u16 x4, .int .i64 x5, .int .u8 x6, .bool x7, .int .u8 x8] 58)) = wc at *
  have kg6 := Cells.lt nn
  have D6 := hide nn
  clear nn
  have d0 := D0.out; have u5 := D5.out; have u6 := D6.out; have b1 := L0.out
  obtain ⟨xd0_0, xd0_1, xd0_2, xd0_3, xd0_4⟩ := d0.x5
  obtain ⟨yd0_0, yd0_1, yd0_2, yd0_3, yd0_4⟩ := d0.y5
  obtain ⟨xu5_0, xu5_1, xu5_2, xu5_3, xu5_4⟩ := u5.x5
  have xu6_5 : wc.cell? ⟨g6, 5, none⟩ = some (.int .i64 x5) := u6.at_ 5
  have xu6_8 : wc.cell? ⟨g6, 8, none⟩ = some (.int .u8 x8) := u6.at_ 8
  clear d0 u5 u6 b1
  have u5 := D5.out; have u6 := D6.out; have kl := Cells.lt D0.out
  have n5 : g5 ≠ w.heap.size := by have := LT.out; omega
  have n6 : g6 ≠ w.heap.size := by have := LT.out; omega
  have sA : Cells wc.drew g5 #[.int .u8 t0, .int .u32 t1, .int .u16 t2, .int .u32 t3, .int .u16 t4] 33 ∧ Cells wc.drew g6 #[.int .u8 x0, .int .u32 x1, .int .u16 x2, .int .u32 x3, .int .u16 x4, .int .i64 x5, .int .u8 x6, .bool x7, .int .u8 x8] 58 := ⟨Cells.drew u5, Cells.drew u6⟩
  clear u5 u6
  focus
    refine wp_region_J [] (fun W => Cells W g5 #[.int .u8 t0, .int .u32 t1, .int .u16 t2, .int .u32 t3, .int .u16 t4] 33 ∧ Cells W g6 #[.int .u8 x0, .int .u32 x1, .int .u16 x2, .int .u32 x3, .int .u16 x4, .int .i64 x5, .int .u8 x6, .bool x7, .int .u8 x8] 58) (by kernel_rfl) (sA) (fun hS0 => ?_)
    refine wpAnyJ_take (i := 0) (v := ?v0_1) rfl (by kernel_rfl) (by kernel_rfl) (by kernel_rfl) (by kernel_rfl) (fun _ _ _ h => h) (Or.inl (And.intro (by kernel_rfl) ?q0_1)) hS0 ?r0_1; (case q0_1 => (intro w hx; have a0 := hx.1.at_ 0; have a1 := hx.1.at_ 1; have a2 := hx.1.at_ 2; have a3 := hx.1.at_ 3; have a4 := hx.1.at_ 4; have c1 := hx.2.at_ 5; have c2 := hx.2.at_ 8; (try dsimp only); (try go_simp); (try with_reducible rfl)))
    (try simp only [Act.put, putS])
    refine wpAnyJ_take (i := 1) (v := ?v1_2) rfl (by kernel_rfl) (by kernel_rfl) (by kernel_rfl) (by kernel_rfl) (fun _ _ _ h => h) (Or.inl (And.intro (by kernel_rfl) ?q1_2)) hS0 ?r1_2; (case q1_2 => (intro w hx; have a0 := hx.1.at_ 0; have a1 := hx.1.at_ 1; have a2 := hx.1.at_ 2; have a3 := hx.1.at_ 3; have a4 := hx.1.at_ 4; have c1 := hx.2.at_ 5; have c2 := hx.2.at_ 8; (try dsimp only); (try go_simp); (try with_reducible rfl)))
    (try simp only [Act.put, putS])
    refine wpAnyJ_take (i := 2) (v := ?v2_3) rfl (by kernel_rfl) (by kernel_rfl) (by kernel_rfl) (by kernel_rfl) (fun _ _ _ h => h) (Or.inl (And.intro (by kernel_rfl) ?q2_3)) hS0 ?r2_3; (case q2_3 => (intro w hx; have a0 := hx.1.at_ 0; have a1 := hx.1.at_ 1; have a2 := hx.1.at_ 2; have a3 := hx.1.at_ 3; have a4 := hx.1.at_ 4; have c1 := hx.2.at_ 5; have c2 := hx.2.at_ 8; (try dsimp only); (try go_simp); (try with_reducible rfl)))
    (try simp only [Act.put, putS])
    refine wpAnyJ_take (i := 3) (v := ?v3_4) rfl (by kernel_rfl) (by kernel_rfl) (by kernel_rfl) (by kernel_rfl) (fun _ _ _ h => h) (Or.inl (And.intro (by kernel_rfl) ?q3_4)) hS0 ?r3_4; (case q3_4 => (intro w hx; have a0 := hx.1.at_ 0; have a1 := hx.1.at_ 1; have a2 := hx.1.at_ 2; have a3 := hx.1.at_ 3; have a4 := hx.1.at_ 4; have c1 := hx.2.at_ 5; have c2 := hx.2.at_ 8; (try dsimp only); (try go_simp); (try with_reducible rfl)))
    (try simp only [Act.put, putS])
    refine uJ 4 rfl hS0 ?_
    (try simp only [Act.put, putS])
    refine uJ 5 rfl hS0 ?_
    (try simp only [Act.put, putS])
    refine uJ 6 rfl hS0 ?_
    (try simp only [Act.put, putS])
    refine uJ 7 rfl hS0 ?_
    (try simp only [Act.put, putS])
    refine wpAnyJ_take (i := 8) (v := ?v8_9) rfl (by kernel_rfl) (by kernel_rfl) (by kernel_rfl) (by kernel_rfl) (fun _ _ _ h => h) (Or.inl (And.intro (by kernel_rfl) ?q8_9)) hS0 ?r8_9; (case q8_9 => (intro w hx; have a0 := hx.1.at_ 0; have a1 := hx.1.at_ 1; have a2 := hx.1.at_ 2; have a3 := hx.1.at_ 3; have a4 := hx.1.at_ 4; have c1 := hx.2.at_ 5; have c2 := hx.2.at_ 8; (try dsimp only); (try go_simp); (try with_reducible rfl)))
    (try simp only [Act.put, putS])
    refine wpAnyJ_take (i := 9) (v := ?v9_10) rfl (by kernel_rfl) (by kernel_rfl) (by kernel_rfl) (by kernel_rfl) (fun _ _ _ h => h) (Or.inl (And.intro (by kernel_rfl) ?q9_10)) hS0 ?r9_10; (case q9_10 => (intro w hx; have a0 := hx.1.at_ 0; have a1 := hx.1.at_ 1; have a2 := hx.1.at_ 2; have a3 := hx.1.at_ 3; have a4 := hx.1.at_ 4; have c1 := hx.2.at_ 5; have c2 := hx.2.at_ 8; (try dsimp only); (try go_simp); (try with_reducible rfl)))
    (try simp only [Act.put, putS])
    refine uJ 10 rfl hS0 ?_
    (try simp only [Act.put, putS])
    refine uJ 11 rfl hS0 ?_
    (try simp only [Act.put, putS])
    refine uJ 12 rfl hS0 ?_
    (try simp only [Act.put, putS])
    refine wpAnyJ_take (i := 13) (v := ?v13_14) rfl (by kernel_rfl) (by kernel_rfl) (by kernel_rfl) (by kernel_rfl) (fun _ _ _ h => h) (Or.inl (And.intro (by kernel_rfl) ?q13_14)) hS0 ?r13_14; (case q13_14 => (intro w hx; have a0 := hx.1.at_ 0; have a1 := hx.1.at_ 1; have a2 := hx.1.at_ 2; have a3 := hx.1.at_ 3; have a4 := hx.1.at_ 4; have c1 := hx.2.at_ 5; have c2 := hx.2.at_ 8; (try dsimp only); (try go_simp); (try with_reducible rfl)))
    (try simp only [Act.put, putS])
    refine rJ [14] ?_
    refine (AllReadyJ.cons rfl (fun K hK => ?_) AllReadyJ.nil)
    rw [if_pos (by kernel_rfl)]
    (try simp only [putG])
    (focus go_simp)
    refine hK.out _ _ ?hs (fun hS0 => ?_)
    case hs => (first | with_reducible exact hS0 | with_reducible exact ⟨Cells.drew (Cells.others5 D5.out n5 _ _ _ _ _), Cells.drew (Cells.others5 D6.out n6 _ _ _ _ _)⟩ | fail)
    clear hK K
    (try simp only [Act.put, putS])
    refine wpAnyJ_take (i := 15) (v := ?v15_15) rfl (by kernel_rfl) (by kernel_rfl) (by kernel_rfl) (by kernel_rfl) (fun _ _ _ h => h) (Or.inl (And.intro (by kernel_rfl) ?q15_15)) hS0 ?r15_15; (case q15_15 => (intro w hx; have a0 := hx.1.at_ 0; have a1 := hx.1.at_ 1; have a2 := hx.1.at_ 2; have a3 := hx.1.at_ 3; have a4 := hx.1.at_ 4; have c1 := hx.2.at_ 5; have c2 := hx.2.at_ 8; (try dsimp only); (try go_simp); (try with_reducible rfl)))
    (try simp only [Act.put, putS])
    refine wpAnyJ_done (by kernel_rfl) ?_ _
  all_goals
    go_wp2_with fail
    have d1 := D0.out; have b1 := L0.out
    have r5 := (Cells.put5 d1 (.int .u8 t0) (.int .u32 t1) (.int .u16 t2) (.int .u32 t3) (.int .u16 t4)).drew
    have b5 := (Below.put5 b1 (b := w.heap.size) (by first | exact Nat.le_refl _ | omega) (.int .u8 t0) (.int .u32 t1) (.int .u16 t2) (.int .u32 t3) (.int .u16 t4)).drew
    have HR5 := hide r5; have HB5 := hide b5
    clear r5 b5 d1
    generalize (((((wc.setCell ⟨w.heap.size, 0, none⟩ (.int .u8 t0)).setCell ⟨w.heap.size, 1, none⟩ (.int .u32 t1)).setCell ⟨w.heap.size, 2, none⟩ (.int .u16 t2)).setCell ⟨w.heap.size, 3, none⟩ (.int .u32 t3)).setCell ⟨w.heap.size, 4, none⟩ (.int .u16 t4)).drew = W5 at *
    have r5 := HR5.out; have b5 := HB5.out
    clear HR5 HB5
    obtain ⟨xr5_0, xr5_1, xr5_2, xr5_3, xr5_4⟩ := r5.x5
    (try simp only [Exit.inBlock, Exit.then]); refine bodyPost_ret (res_cell_tmp Tryz.results14 r5 (by rfl) (by rfl) _ Tryz.underlying33 rfl (by kernel_rfl)) rfl ?_
    first | exact ⟨rfl, b5⟩ | exact ⟨by rw [decide_eq_false (by omega)], b5⟩

set_option maxRecDepth 100000 in
set_option maxHeartbeats 2000000 in
theorem tt_ttl (s : ByteArray) (n t0 t1 t2 t3 t4 x0 x1 x2 x3 x4 x5 x6 x8 q r : Int) (x7 : Bool) (w : World) (K0 : Kinds w) (q2 : decide (n < x8) = false)
    (c0 : ∀ W, Kinds W → Calls Tryz.prog 9 #[.string s] W (Ret (.tuple #[.agg #[.int .u8 t0, .int .u32 t1, .int .u16 t2, .int .u32 t3, .int .u16 t4], .int .i64 0]) W))
    (c1 : ∀ W, Kinds W → Calls Tryz.prog 19 #[.string s] W (Ret (.tuple #[.agg #[.int .u8 x0, .int .u32 x1, .int .u16 x2, .int .u32 x3, .int .u16 x4, .int .i64 x5, .int .u8 x6, .bool x7, .int .u8 x8], .int .i64 q]) W)) :
    Calls Tryz.prog 14 #[.string s, .int .u8 n] w (Ret (.tuple #[.agg #[.int .u8 t0, .int .u32 t1, .int .u16 t2, .int .u32 t3, .int .u16 t4], .bool false]) w) := by
  have C0 := hide c0; have C1 := hide c1; have KK := hide K0
  clear c0 c1 K0
  go_enter Tryz.func14, Tryz.ntmps14
  have d0 := Cells.new w #[.int .u8 0, .int .u32 0, .int .u16 0, .int .u32 0, .int .u16 0] 33
  have l0 : Below w.heap.size w (w.alloc (.cells #[.int .u8 0, .int .u32 0, .int .u16 0, .int .u32 0, .int .u16 0] 33)) := (fresh_below _ _)
  have L0 := hide l0; have D0 := hide d0
  clear l0 d0
  go_upto_region 1 with fail
  have l0 := L0.out; have d0 := D0.out
  clear L0 D0
  generalize (w.alloc (.cells #[.int .u8 0, .int .u32 0, .int .u16 0, .int .u32 0, .int .u16 0] 33)) = wa at *
  obtain ⟨qd0_0, qd0_1, qd0_2, qd0_3, qd0_4⟩ := d0.q5
  have bb : Below wa.heap.size wa wa := Below.refl _ _
  have L0 := hide l0; have D0 := hide d0
  clear l0 d0
  have LT := hide (Cells.lt D0.out)
  clear bb qd0_0 qd0_1 qd0_2 qd0_3 qd0_4
  go_upto_region 2 with (go_at_call 9; (with_reducible refine (C0.out _ (KK.out.below L0.out)).mono ?_); rintro e2 w2 ⟨rfl, b2⟩)
  have nn := Cells.new w2 #[.int .u8 t0, .int .u32 t1, .int .u16 t2, .int .u32 t3, .int .u16 t4] 33
  have bn : Below wa.heap.size wa (w2.alloc (.cells #[.int .u8 t0, .int .u32 t1, .int .u16 t2, .int .u32 t3, .int .u16 t4] 33)) := bstep b2 (fresh_below _ _)
  replace D0 := hide (Cells.below bn D0.out)
  replace L0 := hide (bstep L0.out bn)
  have LO2 := hide b2.size
  clear bn b2
  have log5 : wa.heap.size ≤ w2.heap.size := LO2.out
  generalize w2.heap.size = g5 at nn log5 ⊢
  generalize (w2.alloc (.cells #[.int .u8 t0, .int .u32 t1, .int .u16 t2, .int .u32 t3, .int .u16 t4] 33)) = wb at *
  have kg5 := Cells.lt nn
  have D5 := hide nn
  clear nn
  go_upto_region 3 with (go_at_call 19; (with_reducible refine (C1.out _ (KK.out.below L0.out)).mono ?_); rintro e2 w2 ⟨rfl, b2⟩)
  have nn := Cells.new w2 #[.int .u8 x0, .int .u32 x1, .int .u16 x2, .int .u32 x3, .int .u16 x4, .int .i64 x5, .int .u8 x6, .bool x7, .int .u8 x8] 58
  have bn : Below wb.heap.size wb (w2.alloc (.cells #[.int .u8 x0, .int .u32 x1, .int .u16 x2, .int .u32 x3, .int .u16 x4, .int .i64 x5, .int .u8 x6, .bool x7, .int .u8 x8] 58)) := bstep b2 (fresh_below _ _)
  replace D0 := hide (Cells.below bn D0.out)
  replace D5 := hide (Cells.below bn D5.out)
  replace L0 := hide (bstep L0.out bn)
  have LO2 := hide b2.size
  clear bn b2
  have log6 : wb.heap.size ≤ w2.heap.size := LO2.out
  generalize w2.heap.size = g6 at nn log6 ⊢
  generalize (w2.alloc (.cells #[.int .u8 x0, .int .u32 x1, .int .u16 x2, .int .u32 x3, .int .u16 x4, .int .i64 x5, .int .u8 x6, .bool x7, .int .u8 x8] 58)) = wc at *
  have kg6 := Cells.lt nn
  have D6 := hide nn
  clear nn
  have d0 := D0.out; have u5 := D5.out; have u6 := D6.out; have b1 := L0.out
  obtain ⟨xd0_0, xd0_1, xd0_2, xd0_3, xd0_4⟩ := d0.x5
  obtain ⟨yd0_0, yd0_1, yd0_2, yd0_3, yd0_4⟩ := d0.y5
  obtain ⟨xu5_0, xu5_1, xu5_2, xu5_3, xu5_4⟩ := u5.x5
  have xu6_5 : wc.cell? ⟨g6, 5, none⟩ = some (.int .i64 x5) := u6.at_ 5
  have xu6_8 : wc.cell? ⟨g6, 8, none⟩ = some (.int .u8 x8) := u6.at_ 8
  clear d0 u5 u6 b1
  have u5 := D5.out; have u6 := D6.out; have kl := Cells.lt D0.out
  have n5 : g5 ≠ w.heap.size := by have := LT.out; omega
  have n6 : g6 ≠ w.heap.size := by have := LT.out; omega
  have sA : Cells wc.drew g5 #[.int .u8 t0, .int .u32 t1, .int .u16 t2, .int .u32 t3, .int .u16 t4] 33 ∧ Cells wc.drew g6 #[.int .u8 x0, .int .u32 x1, .int .u16 x2, .int .u32 x3, .int .u16 x4, .int .i64 x5, .int .u8 x6, .bool x7, .int .u8 x8] 58 := ⟨Cells.drew u5, Cells.drew u6⟩
  clear u5 u6
  focus
    refine wp_region_J [] (fun W => Cells W g5 #[.int .u8 t0, .int .u32 t1, .int .u16 t2, .int .u32 t3, .int .u16 t4] 33 ∧ Cells W g6 #[.int .u8 x0, .int .u32 x1, .int .u16 x2, .int .u32 x3, .int .u16 x4, .int .i64 x5, .int .u8 x6, .bool x7, .int .u8 x8] 58) (by kernel_rfl) (sA) (fun hS0 => ?_)
    refine wpAnyJ_take (i := 0) (v := ?v0_16) rfl (by kernel_rfl) (by kernel_rfl) (by kernel_rfl) (by kernel_rfl) (fun _ _ _ h => h) (Or.inl (And.intro (by kernel_rfl) ?q0_16)) hS0 ?r0_16; (case q0_16 => (intro w hx; have a0 := hx.1.at_ 0; have a1 := hx.1.at_ 1; have a2 := hx.1.at_ 2; have a3 := hx.1.at_ 3; have a4 := hx.1.at_ 4; have c1 := hx.2.at_ 5; have c2 := hx.2.at_ 8; (try dsimp only); (try go_simp); (try with_reducible rfl)))
    (try simp only [Act.put, putS])
    refine wpAnyJ_take (i := 1) (v := ?v1_17) rfl (by kernel_rfl) (by kernel_rfl) (by kernel_rfl) (by kernel_rfl) (fun _ _ _ h => h) (Or.inl (And.intro (by kernel_rfl) ?q1_17)) hS0 ?r1_17; (case q1_17 => (intro w hx; have a0 := hx.1.at_ 0; have a1 := hx.1.at_ 1; have a2 := hx.1.at_ 2; have a3 := hx.1.at_ 3; have a4 := hx.1.at_ 4; have c1 := hx.2.at_ 5; have c2 := hx.2.at_ 8; (try dsimp only); (try go_simp); (try with_reducible rfl)))
    (try simp only [Act.put, putS])
    refine wpAnyJ_take (i := 2) (v := ?v2_18) rfl (by kernel_rfl) (by kernel_rfl) (by kernel_rfl) (by kernel_rfl) (fun _ _ _ h => h) (Or.inl (And.intro (by kernel_rfl) ?q2_18)) hS0 ?r2_18; (case q2_18 => (intro w hx; have a0 := hx.1.at_ 0; have a1 := hx.1.at_ 1; have a2 := hx.1.at_ 2; have a3 := hx.1.at_ 3; have a4 := hx.1.at_ 4; have c1 := hx.2.at_ 5; have c2 := hx.2.at_ 8; (try dsimp only); (try go_simp); (try with_reducible rfl)))
    (try simp only [Act.put, putS])
    refine wpAnyJ_take (i := 3) (v := ?v3_19) rfl (by kernel_rfl) (by kernel_rfl) (by kernel_rfl) (by kernel_rfl) (fun _ _ _ h => h) (Or.inl (And.intro (by kernel_rfl) ?q3_19)) hS0 ?r3_19; (case q3_19 => (intro w hx; have a0 := hx.1.at_ 0; have a1 := hx.1.at_ 1; have a2 := hx.1.at_ 2; have a3 := hx.1.at_ 3; have a4 := hx.1.at_ 4; have c1 := hx.2.at_ 5; have c2 := hx.2.at_ 8; (try dsimp only); (try go_simp); (try with_reducible rfl)))
    (try simp only [Act.put, putS])
    refine wpAnyJ_take (i := 4) (v := ?v4_20) rfl (by kernel_rfl) (by kernel_rfl) (by kernel_rfl) (by kernel_rfl) (fun _ _ _ h => h) (Or.inl (And.intro (by kernel_rfl) ?q4_20)) hS0 ?r4_20; (case q4_20 => (intro w hx; have a0 := hx.1.at_ 0; have a1 := hx.1.at_ 1; have a2 := hx.1.at_ 2; have a3 := hx.1.at_ 3; have a4 := hx.1.at_ 4; have c1 := hx.2.at_ 5; have c2 := hx.2.at_ 8; (try dsimp only); (try go_simp); (try with_reducible rfl)))
    (try simp only [Act.put, putS])
    refine wpAnyJ_take (i := 6) (v := ?v6_21) rfl (by kernel_rfl) (by kernel_rfl) (by kernel_rfl) (by kernel_rfl) (fun _ _ _ h => h) (Or.inl (And.intro (by kernel_rfl) ?q6_21)) hS0 ?r6_21; (case q6_21 => (intro w hx; have a0 := hx.1.at_ 0; have a1 := hx.1.at_ 1; have a2 := hx.1.at_ 2; have a3 := hx.1.at_ 3; have a4 := hx.1.at_ 4; have c1 := hx.2.at_ 5; have c2 := hx.2.at_ 8; (try dsimp only); (try go_simp); (try with_reducible rfl)))
    (try simp only [Act.put, putS])
    refine rJ [5] ?_
    refine (AllReadyJ.cons rfl (fun K hK => ?_) AllReadyJ.nil)
    rw [if_pos (by kernel_rfl)]
    (try simp only [putG])
    (focus go_simp)
    refine hK.out _ _ ?hs (fun hS0 => ?_)
    case hs => (first | with_reducible exact hS0 | with_reducible exact ⟨Cells.drew (Cells.others5 D5.out n5 _ _ _ _ _), Cells.drew (Cells.others5 D6.out n6 _ _ _ _ _)⟩ | fail)
    clear hK K
    (try simp only [Act.put, putS])
    refine wpAnyJ_take (i := 7) (v := ?v7_22) rfl (by kernel_rfl) (by kernel_rfl) (by kernel_rfl) (by kernel_rfl) (fun _ _ _ h => h) (Or.inl (And.intro (by kernel_rfl) ?q7_22)) hS0 ?r7_22; (case q7_22 => (intro w hx; have a0 := hx.1.at_ 0; have a1 := hx.1.at_ 1; have a2 := hx.1.at_ 2; have a3 := hx.1.at_ 3; have a4 := hx.1.at_ 4; have c1 := hx.2.at_ 5; have c2 := hx.2.at_ 8; (try dsimp only); (try go_simp); (try with_reducible rfl)))
    (try simp only [Act.put, putS])
    refine wpAnyJ_take (i := 8) (v := ?v8_23) rfl (by kernel_rfl) (by kernel_rfl) (by kernel_rfl) (by kernel_rfl) (fun _ _ _ h => h) (Or.inl (And.intro (by kernel_rfl) ?q8_23)) hS0 ?r8_23; (case q8_23 => (intro w hx; have a0 := hx.1.at_ 0; have a1 := hx.1.at_ 1; have a2 := hx.1.at_ 2; have a3 := hx.1.at_ 3; have a4 := hx.1.at_ 4; have c1 := hx.2.at_ 5; have c2 := hx.2.at_ 8; (try dsimp only); (try go_simp); (try with_reducible rfl)))
    (try simp only [Act.put, putS])
    refine wpAnyJ_take (i := 9) (v := ?v9_24) rfl (by kernel_rfl) (by kernel_rfl) (by kernel_rfl) (by kernel_rfl) (fun _ _ _ h => h) (Or.inl (And.intro (by kernel_rfl) ?q9_24)) hS0 ?r9_24; (case q9_24 => (intro w hx; have a0 := hx.1.at_ 0; have a1 := hx.1.at_ 1; have a2 := hx.1.at_ 2; have a3 := hx.1.at_ 3; have a4 := hx.1.at_ 4; have c1 := hx.2.at_ 5; have c2 := hx.2.at_ 8; (try dsimp only); (try go_simp); (try with_reducible rfl)))
    (try simp only [Act.put, putS])
    refine uJ 10 rfl hS0 ?_
    (try simp only [Act.put, putS])
    refine uJ 11 rfl hS0 ?_
    (try simp only [Act.put, putS])
    refine uJ 12 rfl hS0 ?_
    (try simp only [Act.put, putS])
    refine wpAnyJ_take (i := 13) (v := ?v13_28) rfl (by kernel_rfl) (by kernel_rfl) (by kernel_rfl) (by kernel_rfl) (fun _ _ _ h => h) (Or.inl (And.intro (by kernel_rfl) ?q13_28)) hS0 ?r13_28; (case q13_28 => (intro w hx; have a0 := hx.1.at_ 0; have a1 := hx.1.at_ 1; have a2 := hx.1.at_ 2; have a3 := hx.1.at_ 3; have a4 := hx.1.at_ 4; have c1 := hx.2.at_ 5; have c2 := hx.2.at_ 8; (try dsimp only); (try go_simp); (try with_reducible rfl)))
    (try simp only [Act.put, putS])
    refine rJ [14] ?_
    refine (AllReadyJ.cons rfl (fun K hK => ?_) AllReadyJ.nil)
    rw [if_pos (by kernel_rfl)]
    (try simp only [putG])
    (focus go_simp)
    refine hK.out _ _ ?hs (fun hS0 => ?_)
    case hs => (first | with_reducible exact hS0 | with_reducible exact ⟨Cells.drew (Cells.others5 D5.out n5 _ _ _ _ _), Cells.drew (Cells.others5 D6.out n6 _ _ _ _ _)⟩ | fail)
    clear hK K
    (try simp only [Act.put, putS])
    refine wpAnyJ_take (i := 15) (v := ?v15_29) rfl (by kernel_rfl) (by kernel_rfl) (by kernel_rfl) (by kernel_rfl) (fun _ _ _ h => h) (Or.inl (And.intro (by kernel_rfl) ?q15_29)) hS0 ?r15_29; (case q15_29 => (intro w hx; have a0 := hx.1.at_ 0; have a1 := hx.1.at_ 1; have a2 := hx.1.at_ 2; have a3 := hx.1.at_ 3; have a4 := hx.1.at_ 4; have c1 := hx.2.at_ 5; have c2 := hx.2.at_ 8; (try dsimp only); (try go_simp); (try with_reducible rfl)))
    (try simp only [Act.put, putS])
    refine wpAnyJ_done (by kernel_rfl) ?_ _
  all_goals
    go_wp2_with fail
    have d1 := D0.out; have b1 := L0.out
    have r5 := (Cells.put5 d1 (.int .u8 t0) (.int .u32 t1) (.int .u16 t2) (.int .u32 t3) (.int .u16 t4)).drew
    have b5 := (Below.put5 b1 (b := w.heap.size) (by first | exact Nat.le_refl _ | omega) (.int .u8 t0) (.int .u32 t1) (.int .u16 t2) (.int .u32 t3) (.int .u16 t4)).drew
    have HR5 := hide r5; have HB5 := hide b5
    clear r5 b5 d1
    generalize (((((wc.setCell ⟨w.heap.size, 0, none⟩ (.int .u8 t0)).setCell ⟨w.heap.size, 1, none⟩ (.int .u32 t1)).setCell ⟨w.heap.size, 2, none⟩ (.int .u16 t2)).setCell ⟨w.heap.size, 3, none⟩ (.int .u32 t3)).setCell ⟨w.heap.size, 4, none⟩ (.int .u16 t4)).drew = W5 at *
    have r5 := HR5.out; have b5 := HB5.out
    clear HR5 HB5
    obtain ⟨xr5_0, xr5_1, xr5_2, xr5_3, xr5_4⟩ := r5.x5
    (try simp only [Exit.inBlock, Exit.then]); refine bodyPost_ret (res_cell_tmp Tryz.results14 r5 (by rfl) (by rfl) _ Tryz.underlying33 rfl (by kernel_rfl)) rfl ?_
    first | exact ⟨rfl, b5⟩ | exact ⟨by rw [decide_eq_false (by omega)], b5⟩

set_option maxRecDepth 100000 in
set_option maxHeartbeats 2000000 in
theorem tt_yes (s : ByteArray) (n t0 t1 t2 t3 t4 x0 x1 x2 x3 x4 x5 x6 x8 q r : Int) (x7 : Bool) (w : World) (K0 : Kinds w) (q2 : decide (n < x8) = true) (q3 : (x5 == 3) = true)
    (c0 : ∀ W, Kinds W → Calls Tryz.prog 9 #[.string s] W (Ret (.tuple #[.agg #[.int .u8 t0, .int .u32 t1, .int .u16 t2, .int .u32 t3, .int .u16 t4], .int .i64 0]) W))
    (c1 : ∀ W, Kinds W → Calls Tryz.prog 19 #[.string s] W (Ret (.tuple #[.agg #[.int .u8 x0, .int .u32 x1, .int .u16 x2, .int .u32 x3, .int .u16 x4, .int .i64 x5, .int .u8 x6, .bool x7, .int .u8 x8], .int .i64 q]) W)) :
    Calls Tryz.prog 14 #[.string s, .int .u8 n] w (Ret (.tuple #[.agg #[.int .u8 t0, .int .u32 t1, .int .u16 t2, .int .u32 t3, .int .u16 t4], .bool true]) w) := by
  have C0 := hide c0; have C1 := hide c1; have KK := hide K0
  clear c0 c1 K0
  go_enter Tryz.func14, Tryz.ntmps14
  have d0 := Cells.new w #[.int .u8 0, .int .u32 0, .int .u16 0, .int .u32 0, .int .u16 0] 33
  have l0 : Below w.heap.size w (w.alloc (.cells #[.int .u8 0, .int .u32 0, .int .u16 0, .int .u32 0, .int .u16 0] 33)) := (fresh_below _ _)
  have L0 := hide l0; have D0 := hide d0
  clear l0 d0
  go_upto_region 1 with fail
  have l0 := L0.out; have d0 := D0.out
  clear L0 D0
  generalize (w.alloc (.cells #[.int .u8 0, .int .u32 0, .int .u16 0, .int .u32 0, .int .u16 0] 33)) = wa at *
  obtain ⟨qd0_0, qd0_1, qd0_2, qd0_3, qd0_4⟩ := d0.q5
  have bb : Below wa.heap.size wa wa := Below.refl _ _
  have L0 := hide l0; have D0 := hide d0
  clear l0 d0
  have LT := hide (Cells.lt D0.out)
  clear bb qd0_0 qd0_1 qd0_2 qd0_3 qd0_4
  go_upto_region 2 with (go_at_call 9; (with_reducible refine (C0.out _ (KK.out.below L0.out)).mono ?_); rintro e2 w2 ⟨rfl, b2⟩)
  have nn := Cells.new w2 #[.int .u8 t0, .int .u32 t1, .int .u16 t2, .int .u32 t3, .int .u16 t4] 33
  have bn : Below wa.heap.size wa (w2.alloc (.cells #[.int .u8 t0, .int .u32 t1, .int .u16 t2, .int .u32 t3, .int .u16 t4] 33)) := bstep b2 (fresh_below _ _)
  replace D0 := hide (Cells.below bn D0.out)
  replace L0 := hide (bstep L0.out bn)
  have LO2 := hide b2.size
  clear bn b2
  have log5 : wa.heap.size ≤ w2.heap.size := LO2.out
  generalize w2.heap.size = g5 at nn log5 ⊢
  generalize (w2.alloc (.cells #[.int .u8 t0, .int .u32 t1, .int .u16 t2, .int .u32 t3, .int .u16 t4] 33)) = wb at *
  have kg5 := Cells.lt nn
  have D5 := hide nn
  clear nn
  go_upto_region 3 with (go_at_call 19; (with_reducible refine (C1.out _ (KK.out.below L0.out)).mono ?_); rintro e2 w2 ⟨rfl, b2⟩)
  have nn := Cells.new w2 #[.int .u8 x0, .int .u32 x1, .int .u16 x2, .int .u32 x3, .int .u16 x4, .int .i64 x5, .int .u8 x6, .bool x7, .int .u8 x8] 58
  have bn : Below wb.heap.size wb (w2.alloc (.cells #[.int .u8 x0, .int .u32 x1, .int .u16 x2, .int .u32 x3, .int .u16 x4, .int .i64 x5, .int .u8 x6, .bool x7, .int .u8 x8] 58)) := bstep b2 (fresh_below _ _)
  replace D0 := hide (Cells.below bn D0.out)
  replace D5 := hide (Cells.below bn D5.out)
  replace L0 := hide (bstep L0.out bn)
  have LO2 := hide b2.size
  clear bn b2
  have log6 : wb.heap.size ≤ w2.heap.size := LO2.out
  generalize w2.heap.size = g6 at nn log6 ⊢
  generalize (w2.alloc (.cells #[.int .u8 x0, .int .u32 x1, .int .u16 x2, .int .u32 x3, .int .u16 x4, .int .i64 x5, .int .u8 x6, .bool x7, .int .u8 x8] 58)) = wc at *
  have kg6 := Cells.lt nn
  have D6 := hide nn
  clear nn
  have d0 := D0.out; have u5 := D5.out; have u6 := D6.out; have b1 := L0.out
  obtain ⟨xd0_0, xd0_1, xd0_2, xd0_3, xd0_4⟩ := d0.x5
  obtain ⟨yd0_0, yd0_1, yd0_2, yd0_3, yd0_4⟩ := d0.y5
  obtain ⟨xu5_0, xu5_1, xu5_2, xu5_3, xu5_4⟩ := u5.x5
  have xu6_5 : wc.cell? ⟨g6, 5, none⟩ = some (.int .i64 x5) := u6.at_ 5
  have xu6_8 : wc.cell? ⟨g6, 8, none⟩ = some (.int .u8 x8) := u6.at_ 8
  clear d0 u5 u6 b1
  have u5 := D5.out; have u6 := D6.out; have kl := Cells.lt D0.out
  have n5 : g5 ≠ w.heap.size := by have := LT.out; omega
  have n6 : g6 ≠ w.heap.size := by have := LT.out; omega
  have sA : Cells wc.drew g5 #[.int .u8 t0, .int .u32 t1, .int .u16 t2, .int .u32 t3, .int .u16 t4] 33 ∧ Cells wc.drew g6 #[.int .u8 x0, .int .u32 x1, .int .u16 x2, .int .u32 x3, .int .u16 x4, .int .i64 x5, .int .u8 x6, .bool x7, .int .u8 x8] 58 := ⟨Cells.drew u5, Cells.drew u6⟩
  clear u5 u6
  focus
    refine wp_region_J [] (fun W => Cells W g5 #[.int .u8 t0, .int .u32 t1, .int .u16 t2, .int .u32 t3, .int .u16 t4] 33 ∧ Cells W g6 #[.int .u8 x0, .int .u32 x1, .int .u16 x2, .int .u32 x3, .int .u16 x4, .int .i64 x5, .int .u8 x6, .bool x7, .int .u8 x8] 58) (by kernel_rfl) (sA) (fun hS0 => ?_)
    refine wpAnyJ_take (i := 0) (v := ?v0_30) rfl (by kernel_rfl) (by kernel_rfl) (by kernel_rfl) (by kernel_rfl) (fun _ _ _ h => h) (Or.inl (And.intro (by kernel_rfl) ?q0_30)) hS0 ?r0_30; (case q0_30 => (intro w hx; have a0 := hx.1.at_ 0; have a1 := hx.1.at_ 1; have a2 := hx.1.at_ 2; have a3 := hx.1.at_ 3; have a4 := hx.1.at_ 4; have c1 := hx.2.at_ 5; have c2 := hx.2.at_ 8; (try dsimp only); (try go_simp); (try with_reducible rfl)))
    (try simp only [Act.put, putS])
    refine wpAnyJ_take (i := 1) (v := ?v1_31) rfl (by kernel_rfl) (by kernel_rfl) (by kernel_rfl) (by kernel_rfl) (fun _ _ _ h => h) (Or.inl (And.intro (by kernel_rfl) ?q1_31)) hS0 ?r1_31; (case q1_31 => (intro w hx; have a0 := hx.1.at_ 0; have a1 := hx.1.at_ 1; have a2 := hx.1.at_ 2; have a3 := hx.1.at_ 3; have a4 := hx.1.at_ 4; have c1 := hx.2.at_ 5; have c2 := hx.2.at_ 8; (try dsimp only); (try go_simp); (try with_reducible rfl)))
    (try simp only [Act.put, putS])
    refine wpAnyJ_take (i := 2) (v := ?v2_32) rfl (by kernel_rfl) (by kernel_rfl) (by kernel_rfl) (by kernel_rfl) (fun _ _ _ h => h) (Or.inl (And.intro (by kernel_rfl) ?q2_32)) hS0 ?r2_32; (case q2_32 => (intro w hx; have a0 := hx.1.at_ 0; have a1 := hx.1.at_ 1; have a2 := hx.1.at_ 2; have a3 := hx.1.at_ 3; have a4 := hx.1.at_ 4; have c1 := hx.2.at_ 5; have c2 := hx.2.at_ 8; (try dsimp only); (try go_simp); (try with_reducible rfl)))
    (try simp only [Act.put, putS])
    refine wpAnyJ_take (i := 3) (v := ?v3_33) rfl (by kernel_rfl) (by kernel_rfl) (by kernel_rfl) (by kernel_rfl) (fun _ _ _ h => h) (Or.inl (And.intro (by kernel_rfl) ?q3_33)) hS0 ?r3_33; (case q3_33 => (intro w hx; have a0 := hx.1.at_ 0; have a1 := hx.1.at_ 1; have a2 := hx.1.at_ 2; have a3 := hx.1.at_ 3; have a4 := hx.1.at_ 4; have c1 := hx.2.at_ 5; have c2 := hx.2.at_ 8; (try dsimp only); (try go_simp); (try with_reducible rfl)))
    (try simp only [Act.put, putS])
    refine wpAnyJ_take (i := 4) (v := ?v4_34) rfl (by kernel_rfl) (by kernel_rfl) (by kernel_rfl) (by kernel_rfl) (fun _ _ _ h => h) (Or.inl (And.intro (by kernel_rfl) ?q4_34)) hS0 ?r4_34; (case q4_34 => (intro w hx; have a0 := hx.1.at_ 0; have a1 := hx.1.at_ 1; have a2 := hx.1.at_ 2; have a3 := hx.1.at_ 3; have a4 := hx.1.at_ 4; have c1 := hx.2.at_ 5; have c2 := hx.2.at_ 8; (try dsimp only); (try go_simp); (try with_reducible rfl)))
    (try simp only [Act.put, putS])
    refine wpAnyJ_take (i := 6) (v := ?v6_35) rfl (by kernel_rfl) (by kernel_rfl) (by kernel_rfl) (by kernel_rfl) (fun _ _ _ h => h) (Or.inl (And.intro (by kernel_rfl) ?q6_35)) hS0 ?r6_35; (case q6_35 => (intro w hx; have a0 := hx.1.at_ 0; have a1 := hx.1.at_ 1; have a2 := hx.1.at_ 2; have a3 := hx.1.at_ 3; have a4 := hx.1.at_ 4; have c1 := hx.2.at_ 5; have c2 := hx.2.at_ 8; (try dsimp only); (try go_simp); (try with_reducible rfl)))
    (try simp only [Act.put, putS])
    refine rJ [5] ?_
    refine (AllReadyJ.cons rfl (fun K hK => ?_) AllReadyJ.nil)
    rw [if_pos (by kernel_rfl)]
    (try simp only [putG])
    (focus go_simp)
    refine hK.out _ _ ?hs (fun hS0 => ?_)
    case hs => (first | with_reducible exact hS0 | with_reducible exact ⟨Cells.drew (Cells.others5 D5.out n5 _ _ _ _ _), Cells.drew (Cells.others5 D6.out n6 _ _ _ _ _)⟩ | fail)
    clear hK K
    (try simp only [Act.put, putS])
    refine wpAnyJ_take (i := 7) (v := ?v7_36) rfl (by kernel_rfl) (by kernel_rfl) (by kernel_rfl) (by kernel_rfl) (fun _ _ _ h => h) (Or.inl (And.intro (by kernel_rfl) ?q7_36)) hS0 ?r7_36; (case q7_36 => (intro w hx; have a0 := hx.1.at_ 0; have a1 := hx.1.at_ 1; have a2 := hx.1.at_ 2; have a3 := hx.1.at_ 3; have a4 := hx.1.at_ 4; have c1 := hx.2.at_ 5; have c2 := hx.2.at_ 8; (try dsimp only); (try go_simp); (try with_reducible rfl)))
    (try simp only [Act.put, putS])
    refine wpAnyJ_take (i := 8) (v := ?v8_37) rfl (by kernel_rfl) (by kernel_rfl) (by kernel_rfl) (by kernel_rfl) (fun _ _ _ h => h) (Or.inl (And.intro (by kernel_rfl) ?q8_37)) hS0 ?r8_37; (case q8_37 => (intro w hx; have a0 := hx.1.at_ 0; have a1 := hx.1.at_ 1; have a2 := hx.1.at_ 2; have a3 := hx.1.at_ 3; have a4 := hx.1.at_ 4; have c1 := hx.2.at_ 5; have c2 := hx.2.at_ 8; (try dsimp only); (try go_simp); (try with_reducible rfl)))
    (try simp only [Act.put, putS])
    refine wpAnyJ_take (i := 9) (v := ?v9_38) rfl (by kernel_rfl) (by kernel_rfl) (by kernel_rfl) (by kernel_rfl) (fun _ _ _ h => h) (Or.inl (And.intro (by kernel_rfl) ?q9_38)) hS0 ?r9_38; (case q9_38 => (intro w hx; have a0 := hx.1.at_ 0; have a1 := hx.1.at_ 1; have a2 := hx.1.at_ 2; have a3 := hx.1.at_ 3; have a4 := hx.1.at_ 4; have c1 := hx.2.at_ 5; have c2 := hx.2.at_ 8; (try dsimp only); (try go_simp); (try with_reducible rfl)))
    (try simp only [Act.put, putS])
    refine wpAnyJ_take (i := 10) (v := ?v10_39) rfl (by kernel_rfl) (by kernel_rfl) (by kernel_rfl) (by kernel_rfl) (fun _ _ _ h => h) (Or.inl (And.intro (by kernel_rfl) ?q10_39)) hS0 ?r10_39; (case q10_39 => (intro w hx; have a0 := hx.1.at_ 0; have a1 := hx.1.at_ 1; have a2 := hx.1.at_ 2; have a3 := hx.1.at_ 3; have a4 := hx.1.at_ 4; have c1 := hx.2.at_ 5; have c2 := hx.2.at_ 8; (try dsimp only); (try go_simp); (try with_reducible rfl)))
    (try simp only [Act.put, putS])
    refine rJ [11, 14] ?_
    refine (AllReadyJ.cons rfl (fun K hK => ?_) (AllReadyJ.cons rfl (fun K hK => ?_) AllReadyJ.nil))
    rw [if_pos (by kernel_rfl)]
    (try simp only [putG])
    (focus go_simp)
    refine hK.out _ _ ?hs (fun hS0 => ?_)
    case hs => (first | with_reducible exact hS0 | with_reducible exact ⟨Cells.drew (Cells.others5 D5.out n5 _ _ _ _ _), Cells.drew (Cells.others5 D6.out n6 _ _ _ _ _)⟩ | fail)
    clear hK K
    (try simp only [Act.put, putS])
    refine wpAnyJ_take (i := 12) (v := ?v12_40) rfl (by kernel_rfl) (by kernel_rfl) (by kernel_rfl) (by kernel_rfl) (fun _ _ _ h => h) (Or.inl (And.intro (by kernel_rfl) ?q12_40)) hS0 ?r12_40; (case q12_40 => (intro w hx; have a0 := hx.1.at_ 0; have a1 := hx.1.at_ 1; have a2 := hx.1.at_ 2; have a3 := hx.1.at_ 3; have a4 := hx.1.at_ 4; have c1 := hx.2.at_ 5; have c2 := hx.2.at_ 8; (try dsimp only); (try go_simp); (try with_reducible rfl)))
    (try simp only [Act.put, putS])
    refine wpAnyJ_take (i := 13) (v := ?v13_41) rfl (by kernel_rfl) (by kernel_rfl) (by kernel_rfl) (by kernel_rfl) (fun _ _ _ h => h) (Or.inl (And.intro (by kernel_rfl) ?q13_41)) hS0 ?r13_41; (case q13_41 => (intro w hx; have a0 := hx.1.at_ 0; have a1 := hx.1.at_ 1; have a2 := hx.1.at_ 2; have a3 := hx.1.at_ 3; have a4 := hx.1.at_ 4; have c1 := hx.2.at_ 5; have c2 := hx.2.at_ 8; (try dsimp only); (try go_simp); (try with_reducible rfl)))
    (try simp only [Act.put, putS])
    refine rJ [14] ?_
    refine (AllReadyJ.cons rfl (fun K hK => ?_) AllReadyJ.nil)
    rw [if_pos (by kernel_rfl)]
    (try simp only [putG])
    (focus go_simp)
    refine hK.out _ _ ?hs (fun hS0 => ?_)
    case hs => (first | with_reducible exact hS0 | with_reducible exact ⟨Cells.drew (Cells.others5 D5.out n5 _ _ _ _ _), Cells.drew (Cells.others5 D6.out n6 _ _ _ _ _)⟩ | fail)
    clear hK K
    (try simp only [Act.put, putS])
    refine wpAnyJ_take (i := 15) (v := ?v15_42) rfl (by kernel_rfl) (by kernel_rfl) (by kernel_rfl) (by kernel_rfl) (fun _ _ _ h => h) (Or.inl (And.intro (by kernel_rfl) ?q15_42)) hS0 ?r15_42; (case q15_42 => (intro w hx; have a0 := hx.1.at_ 0; have a1 := hx.1.at_ 1; have a2 := hx.1.at_ 2; have a3 := hx.1.at_ 3; have a4 := hx.1.at_ 4; have c1 := hx.2.at_ 5; have c2 := hx.2.at_ 8; (try dsimp only); (try go_simp); (try with_reducible rfl)))
    (try simp only [Act.put, putS])
    refine wpAnyJ_done (by kernel_rfl) ?_ _
    rotate_left 1
    rw [if_pos (by kernel_rfl)]
    (try simp only [putG])
    (focus go_simp)
    refine hK.out _ _ ?hs (fun hS0 => ?_)
    case hs => (first | with_reducible exact hS0 | with_reducible exact ⟨Cells.drew (Cells.others5 D5.out n5 _ _ _ _ _), Cells.drew (Cells.others5 D6.out n6 _ _ _ _ _)⟩ | fail)
    clear hK K
    (try simp only [Act.put, putS])
    refine rJ [11] ?_
    refine (AllReadyJ.cons rfl (fun K hK => ?_) AllReadyJ.nil)
    rw [if_pos (by kernel_rfl)]
    (try simp only [putG])
    (focus go_simp)
    refine hK.out _ _ ?hs (fun hS0 => ?_)
    case hs => (first | with_reducible exact hS0 | with_reducible exact ⟨Cells.drew (Cells.others5 D5.out n5 _ _ _ _ _), Cells.drew (Cells.others5 D6.out n6 _ _ _ _ _)⟩ | fail)
    clear hK K
    (try simp only [Act.put, putS])
    refine wpAnyJ_take (i := 12) (v := ?v12_43) rfl (by kernel_rfl) (by kernel_rfl) (by kernel_rfl) (by kernel_rfl) (fun _ _ _ h => h) (Or.inl (And.intro (by kernel_rfl) ?q12_43)) hS0 ?r12_43; (case q12_43 => (intro w hx; have a0 := hx.1.at_ 0; have a1 := hx.1.at_ 1; have a2 := hx.1.at_ 2; have a3 := hx.1.at_ 3; have a4 := hx.1.at_ 4; have c1 := hx.2.at_ 5; have c2 := hx.2.at_ 8; (try dsimp only); (try go_simp); (try with_reducible rfl)))
    (try simp only [Act.put, putS])
    refine wpAnyJ_take (i := 13) (v := ?v13_44) rfl (by kernel_rfl) (by kernel_rfl) (by kernel_rfl) (by kernel_rfl) (fun _ _ _ h => h) (Or.inl (And.intro (by kernel_rfl) ?q13_44)) hS0 ?r13_44; (case q13_44 => (intro w hx; have a0 := hx.1.at_ 0; have a1 := hx.1.at_ 1; have a2 := hx.1.at_ 2; have a3 := hx.1.at_ 3; have a4 := hx.1.at_ 4; have c1 := hx.2.at_ 5; have c2 := hx.2.at_ 8; (try dsimp only); (try go_simp); (try with_reducible rfl)))
    (try simp only [Act.put, putS])
    refine wpAnyJ_take (i := 15) (v := ?v15_45) rfl (by kernel_rfl) (by kernel_rfl) (by kernel_rfl) (by kernel_rfl) (fun _ _ _ h => h) (Or.inl (And.intro (by kernel_rfl) ?q15_45)) hS0 ?r15_45; (case q15_45 => (intro w hx; have a0 := hx.1.at_ 0; have a1 := hx.1.at_ 1; have a2 := hx.1.at_ 2; have a3 := hx.1.at_ 3; have a4 := hx.1.at_ 4; have c1 := hx.2.at_ 5; have c2 := hx.2.at_ 8; (try dsimp only); (try go_simp); (try with_reducible rfl)))
    (try simp only [Act.put, putS])
    refine wpAnyJ_done (by kernel_rfl) ?_ _
    rotate_left 1
  all_goals
    go_wp2_with fail
    have d1 := D0.out; have b1 := L0.out
    have r5 := (Cells.put5 d1 (.int .u8 t0) (.int .u32 t1) (.int .u16 t2) (.int .u32 t3) (.int .u16 t4)).drew
    have b5 := (Below.put5 b1 (b := w.heap.size) (by first | exact Nat.le_refl _ | omega) (.int .u8 t0) (.int .u32 t1) (.int .u16 t2) (.int .u32 t3) (.int .u16 t4)).drew
    have HR5 := hide r5; have HB5 := hide b5
    clear r5 b5 d1
    generalize (((((wc.setCell ⟨w.heap.size, 0, none⟩ (.int .u8 t0)).setCell ⟨w.heap.size, 1, none⟩ (.int .u32 t1)).setCell ⟨w.heap.size, 2, none⟩ (.int .u16 t2)).setCell ⟨w.heap.size, 3, none⟩ (.int .u32 t3)).setCell ⟨w.heap.size, 4, none⟩ (.int .u16 t4)).drew = W5 at *
    have r5 := HR5.out; have b5 := HB5.out
    clear HR5 HB5
    obtain ⟨xr5_0, xr5_1, xr5_2, xr5_3, xr5_4⟩ := r5.x5
    (try simp only [Exit.inBlock, Exit.then]); refine bodyPost_ret (res_cell_tmp Tryz.results14 r5 (by rfl) (by rfl) _ Tryz.underlying33 rfl (by kernel_rfl)) rfl ?_
    first | exact ⟨rfl, b5⟩ | exact ⟨by rw [decide_eq_false (by omega)], b5⟩

def tkOk (s : ByteArray) (n : Int) : Bool := decide (emsWhy s = 0) && decide (n < (seenOf s).l)
theorem takenE (s : ByteArray) (n : Int) (w : World) (K0 : Kinds w) (hs : s.size ≤ 140737488351232) :
    Calls Tryz.prog 14 #[.string s, .int .u8 n] w (Ret (.tuple #[.agg #[.int .u8 (inTup s).p, .int .u32 (inTup s).a, .int .u16 (inTup s).b, .int .u32 (inTup s).c, .int .u16 (inTup s).d], .bool (tkOk s n)]) w) := by
  have c0 := fun W K => e_Inner W s K hs
  have c1 := fun W K => tu_Of s W K hs
  unfold Seen.cells at c1
  unfold tkOk
  by_cases h1 : emsWhy s = 0
  · obtain ⟨_, k3, _⟩ := ems_seen h1
    simp only [h1] at c0 ⊢
    by_cases h2 : n < (seenOf s).l
    · rw [decide_eq_true h2]
      exact tt_yes s n _ _ _ _ _ _ _ _ _ _ _ _ _ _ 0 _ w K0 (by simpa using h2) (by simpa using k3) c0 c1
    · rw [decide_eq_false h2]
      exact tt_ttl s n _ _ _ _ _ _ _ _ _ _ _ _ _ _ 0 _ w K0 (by simpa using h2) c0 c1
  · rw [decide_eq_false h1]
    exact tt_why s n _ _ _ _ _ _ _ _ _ _ _ _ _ _ (emsWhy s) _ w K0 (by simpa using h1) c0 c1

end Go.Proofs.YtjeaknipmdfkdaaGreatDoor
end

section
/- data, head, sumIn walked. -/
set_option linter.unusedVariables false
set_option linter.unusedSimpArgs false
namespace Go.Proofs.YtjeaknipmdfkdaaGreatDoor
open Go.RowKit
attribute [local go_sem] Oper.semAt_some

set_option maxRecDepth 100000 in
set_option maxHeartbeats 2000000 in
theorem dataE (s l d : ByteArray) (w : World) (hs : s.size ≤ 140737488351232) (hl : ipRest s = l) (h8 : 8 ≤ l.size) (hz : l.size ≤ 140737488351232) (hd : emData s = d) :
    Calls Tryz.prog 16 #[.string s] w (Ret (.string d) w) := by
  have c1 := fun W => ip_Parse s W hs
  have c2 := fun W => i_Parse_yes l W hz h8
  unfold emData at hd
  rw [hl] at c1 hd
  rw [hd] at c2
  generalize hdRes s = h at c1
  obtain ⟨h0, h1, h2, h3, h4, h5, h6, h7⟩ := h
  unfold Hd.cells at c1
  simp only at c1
  generalize ipWhy s = y at c1
  generalize (msgOf l).t = m0 at c2
  generalize (msgOf l).c = m1 at c2
  generalize (msgOf l).n = m2 at c2
  generalize (msgOf l).r = m3 at c2
  have C1 := hide c1; have C2 := hide c2
  clear c1 c2 hd hl h8 hz hs
  go_enter Tryz.func16, Tryz.ntmps16
  go_wp2_with fail
  (with_reducible refine (C1.out _).mono ?_)
  rintro e w1 ⟨rfl, b1⟩
  replace b1 : Below w.heap.size w (w1.alloc (.cells #[.int .u8 h0, .int .u16 h1, .bool h2, .int .u8 h3, .int .u8 h4, .int .u32 h5, .int .u32 h6, .string h7] 65)) := bstep b1 (fresh_below _ _)
  go_wp2_with fail
  (with_reducible refine (C2.out _).mono ?_)
  rintro e w2 ⟨rfl, b2⟩
  have dn := Cells.new w2 #[.int .u8 m0, .int .u8 m1, .int .u16 m2, .string m3, .string d] 64
  replace b1 := bstep (bstep b1 b2) (fresh_below w2 (.cells #[.int .u8 m0, .int .u8 m1, .int .u16 m2, .string m3, .string d] 64))
  obtain ⟨xdn_0, xdn_1, xdn_2, xdn_3, xdn_4⟩ := dn.x5
  clear dn
  go_wp2_with fail
  go_ret
  exact ⟨rfl, b1⟩
set_option maxRecDepth 100000 in
set_option maxHeartbeats 2000000 in
theorem headE (s : ByteArray) (w : World) (h1 : 1 ≤ s.size) : Calls Tryz.prog 17 #[.string s] w (Ret (.int .i64 ((emAt (L s) : Nat) : Int)) w) := by
  have hb := at_bd (L s) 0
  have e0 : (((s[0]'(by omega)).toNat : Nat) : Int) = at_ (L s) 0 := by rw [getElem_L s 0 (by omega)]; rfl
  have he : ((emAt (L s) : Nat) : Int) = at_ (L s) 0 % 16 * 4 := by unfold emAt emEnd; omega
  have i4 : (0 : Int) < (s.size : Int) := by omega
  have i5 : 0 < s.size := by omega
  rw [he]
  generalize at_ (L s) 0 = y at *
  clear he
  go_enter Tryz.func17, Tryz.ntmps17
  go_wp2_with fail
  (try simp only [Exit.inBlock, Exit.then]); refine bodyPost_ret (by simp [results, Tryz.results17, go_sem]; try rfl) rfl ?_
  exact ⟨by first | rfl | (simp; omega), Below.refl _ _⟩
set_option maxRecDepth 100000 in
set_option maxHeartbeats 2000000 in
theorem si_udp (s : ByteArray) (k y : Int) (w : World) (i5 : 9 < s.size) (i4 : (9 : Int) < (s.size : Int)) (hk : 0 ≤ k ∧ k ≤ 60) (hb : 0 ≤ y ∧ y ≤ 255) (e0 : (((s[9]'i5).toNat : Nat) : Int) = y) (q1 : (y == 17) = true)
    (c1 : ∀ W, Calls Tryz.prog 17 #[.string s] W (Ret (.int .i64 k) W)) :
    Calls Tryz.prog 18 #[.string s] w (Ret (.int .i64 (k + 6)) w) := by
  have C1 := hide c1
  clear c1
  have w2 : IntKind.i64.wrap (k + 2) = k + 2 := by rw [IntKind.wrap_i64]; omega
  have w6 : IntKind.i64.wrap (k + 6) = k + 6 := by rw [IntKind.wrap_i64]; omega
  have w16 : IntKind.i64.wrap (k + 16) = k + 16 := by rw [IntKind.wrap_i64]; omega
  have w18 : IntKind.i64.wrap (k + 18) = k + 18 := by rw [IntKind.wrap_i64]; omega
  go_enter Tryz.func18, Tryz.ntmps18
  go_wp2_with fail
  (with_reducible refine (C1.out _).mono ?_)
  rintro e w1 ⟨rfl, b1⟩
  go_wp2_with fail
  (try simp only [Exit.inBlock, Exit.then]); refine bodyPost_ret (by simp [results, Tryz.results18, go_sem]; try rfl) rfl ?_
  exact ⟨by first | rfl | (simp; omega), b1⟩

set_option maxRecDepth 100000 in
set_option maxHeartbeats 2000000 in
theorem si_msg (s : ByteArray) (k y : Int) (w : World) (i5 : 9 < s.size) (i4 : (9 : Int) < (s.size : Int)) (hk : 0 ≤ k ∧ k ≤ 60) (hb : 0 ≤ y ∧ y ≤ 255) (e0 : (((s[9]'i5).toNat : Nat) : Int) = y) (q1 : (y == 17) = false) (q2 : (y == 1) = true)
    (c1 : ∀ W, Calls Tryz.prog 17 #[.string s] W (Ret (.int .i64 k) W)) :
    Calls Tryz.prog 18 #[.string s] w (Ret (.int .i64 (k + 2)) w) := by
  have C1 := hide c1
  clear c1
  have w2 : IntKind.i64.wrap (k + 2) = k + 2 := by rw [IntKind.wrap_i64]; omega
  have w6 : IntKind.i64.wrap (k + 6) = k + 6 := by rw [IntKind.wrap_i64]; omega
  have w16 : IntKind.i64.wrap (k + 16) = k + 16 := by rw [IntKind.wrap_i64]; omega
  have w18 : IntKind.i64.wrap (k + 18) = k + 18 := by rw [IntKind.wrap_i64]; omega
  go_enter Tryz.func18, Tryz.ntmps18
  go_wp2_with fail
  (with_reducible refine (C1.out _).mono ?_)
  rintro e w1 ⟨rfl, b1⟩
  go_wp2_with fail
  (try simp only [Exit.inBlock, Exit.then]); refine bodyPost_ret (by simp [results, Tryz.results18, go_sem]; try rfl) rfl ?_
  exact ⟨by first | rfl | (simp; omega), b1⟩

set_option maxRecDepth 100000 in
set_option maxHeartbeats 2000000 in
theorem si_tcp (s : ByteArray) (k y : Int) (w : World) (i5 : 9 < s.size) (i4 : (9 : Int) < (s.size : Int)) (hk : 0 ≤ k ∧ k ≤ 60) (hb : 0 ≤ y ∧ y ≤ 255) (e0 : (((s[9]'i5).toNat : Nat) : Int) = y) (q1 : (y == 17) = false) (q2 : (y == 1) = false) (q3 : k + 18 ≤ (s.size : Int))
    (c1 : ∀ W, Calls Tryz.prog 17 #[.string s] W (Ret (.int .i64 k) W)) :
    Calls Tryz.prog 18 #[.string s] w (Ret (.int .i64 (k + 16)) w) := by
  have C1 := hide c1
  clear c1
  have w2 : IntKind.i64.wrap (k + 2) = k + 2 := by rw [IntKind.wrap_i64]; omega
  have w6 : IntKind.i64.wrap (k + 6) = k + 6 := by rw [IntKind.wrap_i64]; omega
  have w16 : IntKind.i64.wrap (k + 16) = k + 16 := by rw [IntKind.wrap_i64]; omega
  have w18 : IntKind.i64.wrap (k + 18) = k + 18 := by rw [IntKind.wrap_i64]; omega
  go_enter Tryz.func18, Tryz.ntmps18
  go_wp2_with fail
  (with_reducible refine (C1.out _).mono ?_)
  rintro e w1 ⟨rfl, b1⟩
  go_wp2_with fail
  (try simp only [Exit.inBlock, Exit.then]); refine bodyPost_ret (by simp [results, Tryz.results18, go_sem]; try rfl) rfl ?_
  exact ⟨by first | rfl | (simp; omega), b1⟩

set_option maxRecDepth 100000 in
set_option maxHeartbeats 2000000 in
theorem si_no (s : ByteArray) (k y : Int) (w : World) (i5 : 9 < s.size) (i4 : (9 : Int) < (s.size : Int)) (hk : 0 ≤ k ∧ k ≤ 60) (hb : 0 ≤ y ∧ y ≤ 255) (e0 : (((s[9]'i5).toNat : Nat) : Int) = y) (q1 : (y == 17) = false) (q2 : (y == 1) = false) (q3 : ¬ k + 18 ≤ (s.size : Int))
    (c1 : ∀ W, Calls Tryz.prog 17 #[.string s] W (Ret (.int .i64 k) W)) :
    Calls Tryz.prog 18 #[.string s] w (Ret (.int .i64 0) w) := by
  have C1 := hide c1
  clear c1
  have w2 : IntKind.i64.wrap (k + 2) = k + 2 := by rw [IntKind.wrap_i64]; omega
  have w6 : IntKind.i64.wrap (k + 6) = k + 6 := by rw [IntKind.wrap_i64]; omega
  have w16 : IntKind.i64.wrap (k + 16) = k + 16 := by rw [IntKind.wrap_i64]; omega
  have w18 : IntKind.i64.wrap (k + 18) = k + 18 := by rw [IntKind.wrap_i64]; omega
  go_enter Tryz.func18, Tryz.ntmps18
  go_wp2_with fail
  (with_reducible refine (C1.out _).mono ?_)
  rintro e w1 ⟨rfl, b1⟩
  go_wp2_with fail
  (try simp only [Exit.inBlock, Exit.then]); refine bodyPost_ret (by simp [results, Tryz.results18, go_sem]; try rfl) rfl ?_
  exact ⟨by first | rfl | (simp; omega), b1⟩

theorem sumInE (s : ByteArray) (w : World) (h1 : 20 ≤ s.size) : Calls Tryz.prog 18 #[.string s] w (Ret (.int .i64 ((emSumIn (L s) : Nat) : Int)) w) := by
  have c1 := fun W => headE s W (by omega)
  have hb := at_bd (L s) 9
  have h0 := at_bd (L s) 0
  have e0 : (((s[9]'(by omega)).toNat : Nat) : Int) = at_ (L s) 9 := by rw [getElem_L s 9 (by omega)]; rfl
  have hk : (0 : Int) ≤ ((emAt (L s) : Nat) : Int) ∧ ((emAt (L s) : Nat) : Int) ≤ 60 := by unfold emAt emEnd; omega
  have hL := L_length s
  unfold emSumIn
  by_cases p17 : at_ (L s) 9 = 17
  · rw [if_pos p17]
    exact si_udp s _ _ w (by omega) (by omega) hk hb e0 (by simpa using p17) c1
  rw [if_neg p17]
  by_cases p1 : at_ (L s) 9 = 1
  · rw [if_pos p1]
    exact si_msg s _ _ w (by omega) (by omega) hk hb e0 (by simpa using p17) (by simpa using p1) c1
  rw [if_neg p1]
  by_cases h18 : emAt (L s) + 18 ≤ (L s).length
  · rw [if_pos h18]
    exact si_tcp s _ _ w (by omega) (by omega) hk hb e0 (by simpa using p17) (by simpa using p1) (by omega) c1
  · rw [if_neg h18]
    exact si_no s _ _ w (by omega) (by omega) hk hb e0 (by simpa using p17) (by simpa using p1) (by omega) c1
end Go.Proofs.YtjeaknipmdfkdaaGreatDoor
end

section
/- porterref08.Wrong: an error about a short packet, by the document's parts. -/
set_option linter.unusedVariables false
set_option linter.unusedSimpArgs false
namespace Go.Proofs.YtjeaknipmdfkdaaGreatDoor
open Go.RowKit

theorem wrong_of (a c k : Int) (about y l1 out : ByteArray) (w : World) (h : about.size ≤ 548)
    (c1 : ∀ W, Calls Tryz.prog 51 #[.agg #[.int .u8 k, .int .u8 1, .int .u16 0, .string { data := #[0, 0, 0, 0] }, .string about]] W (Ret (.tuple #[.string y, .int .i64 0]) W))
    (c2 : ∀ W, Calls Tryz.prog 52 #[.string y] W (Ret (.string l1) W))
    (c3 : ∀ W, Calls Tryz.prog 13 #[.agg #[.int .u8 0, .int .u16 0, .bool false, .int .u8 64, .int .u8 1, .int .u32 a, .int .u32 c, .string { data := #[] }], .string l1] W (Ret (.tuple #[.string out, .int .i64 0]) W)) :
    Calls Tryz.prog 26 #[.int .u32 a, .int .u32 c, .int .u8 k, .string about] w (Ret (.string out) w) := by
  have i1 : (about.size : Int) ≤ 548 := by omega
  have i2 : min (about.size : Int) 548 = (about.size : Int) := by omega
  have i3 : about.extract 0 about.size = about := by
    apply ByteArray.ext
    simp
  have C1 := hide c1; have C2 := hide c2; have C3 := hide c3
  clear c1 c2 c3 h
  go_enter Tryz.func26, Tryz.ntmps26
  go_wp2_with (first | (go_at_call 51; (with_reducible refine (C1.out _).mono ?_); rintro e w1 ⟨rfl, b1⟩) | (go_at_call 52; (with_reducible refine (C2.out _).mono ?_); rintro e w2 ⟨rfl, b2⟩) | (go_at_call 13; (with_reducible refine (C3.out _).mono ?_); rintro e w3 ⟨rfl, b3⟩))
  go_ret
  exact ⟨rfl, bstep (bstep b1 b2) b3⟩
end Go.Proofs.YtjeaknipmdfkdaaGreatDoor
end
