/- Several texts of this claim, one behind the other. -/
import Derived.Test.YtjeaknipmdfkdaaGreatDoorK2
import Derived.Test.YtjeaknipmdfkdaaGreatDoorK37
import Derived.Test.YtjeaknipmdfkdaaGreatDoorK31
import Derived.Test.YtjeaknipmdfkdaaGreatDoorK1
import Derived.Test.YtjeaknipmdfkdaaGreatDoorK32

section
/- EmbedsBack walked. -/
set_option linter.unusedVariables false
set_option linter.unusedSimpArgs false
namespace Go.Proofs.YtjeaknipmdfkdaaGreatDoor
open Go.RowKit
attribute [local go_sem] Oper.semAt_some

set_option maxRecDepth 100000 in
set_option maxHeartbeats 4000000 in
theorem back_long (s : ByteArray) (oa ob oc od a b c d : Int) (w : World) (T0 : Tabs w) (hl : (2500 : Int) < (s.size : Int)) :
    Calls Tryz.prog 6 #[.string s, .agg #[.int .u32 oa, .int .u16 ob, .int .u32 oc, .int .u16 od, .int .u32 a, .int .u16 b, .int .u32 c, .int .u16 d]] w (Ret (.bool true) w) := by
  have P5 := hide (fun W T => tolds W T); have TT := hide T0
  clear T0
  go_enter Tryz.func6, Tryz.ntmps6
  have d0 := Cells.new w #[.int .u32 oa, .int .u16 ob, .int .u32 oc, .int .u16 od, .int .u32 a, .int .u16 b, .int .u32 c, .int .u16 d] 30
  have l0 : Below w.heap.size w (w.alloc (.cells #[.int .u32 oa, .int .u16 ob, .int .u32 oc, .int .u16 od, .int .u32 a, .int .u16 b, .int .u32 c, .int .u16 d] 30)) := (fresh_below _ _)
  have L0 := hide l0; have D0 := hide d0
  clear l0 d0
  go_upto_region 1 with fail
  have l0 := L0.out; have d0 := D0.out
  clear L0 D0
  generalize (w.alloc (.cells #[.int .u32 oa, .int .u16 ob, .int .u32 oc, .int .u16 od, .int .u32 a, .int .u16 b, .int .u32 c, .int .u16 d] 30)) = wa at *
  obtain ⟨qd0_0, qd0_1, qd0_2, qd0_3, qd0_4, qd0_5, qd0_6, qd0_7⟩ := d0.q8
  have bb : Below wa.heap.size wa wa := Below.refl _ _
  have L0 := hide l0; have D0 := hide d0
  clear l0 d0
  go_wp2_with fail
  (with_reducible refine (P5.out _ (TT.out.below L0.out)).mono ?_)
  rintro e w1 ⟨rfl, b1⟩
  go_wp2_with fail
  go_ret
  exact ⟨rfl, bstep L0.out b1⟩
set_option maxRecDepth 100000 in
set_option maxHeartbeats 4000000 in
theorem back_no (s : ByteArray) (oa ob oc od a b c d t0 t1 t2 t3 t4 : Int) (w : World) (T0 : Tabs w) (hl : ¬ (2500 : Int) < (s.size : Int))
    (p0 : ∀ W, Kinds W → Calls Tryz.prog 14 #[.string s, .int .u8 2] W (Ret (.tuple #[.agg #[.int .u8 t0, .int .u32 t1, .int .u16 t2, .int .u32 t3, .int .u16 t4], .bool false]) W)) :
    Calls Tryz.prog 6 #[.string s, .agg #[.int .u32 oa, .int .u16 ob, .int .u32 oc, .int .u16 od, .int .u32 a, .int .u16 b, .int .u32 c, .int .u16 d]] w (Ret (.bool true) w) := by
  have P0 := hide p0; have P5 := hide (fun W T => tolds W T); have TT := hide T0; have KK := hide (show Kinds w from T0.1)
  clear T0 p0
  go_enter Tryz.func6, Tryz.ntmps6
  have d0 := Cells.new w #[.int .u32 oa, .int .u16 ob, .int .u32 oc, .int .u16 od, .int .u32 a, .int .u16 b, .int .u32 c, .int .u16 d] 30
  have l0 : Below w.heap.size w (w.alloc (.cells #[.int .u32 oa, .int .u16 ob, .int .u32 oc, .int .u16 od, .int .u32 a, .int .u16 b, .int .u32 c, .int .u16 d] 30)) := (fresh_below _ _)
  have L0 := hide l0; have D0 := hide d0
  clear l0 d0
  go_upto_region 1 with fail
  have l0 := L0.out; have d0 := D0.out
  clear L0 D0
  generalize (w.alloc (.cells #[.int .u32 oa, .int .u16 ob, .int .u32 oc, .int .u16 od, .int .u32 a, .int .u16 b, .int .u32 c, .int .u16 d] 30)) = wa at *
  obtain ⟨qd0_0, qd0_1, qd0_2, qd0_3, qd0_4, qd0_5, qd0_6, qd0_7⟩ := d0.q8
  have bb : Below wa.heap.size wa wa := Below.refl _ _
  have L0 := hide l0; have D0 := hide d0
  clear l0 d0
  clear bb qd0_0 qd0_1 qd0_2 qd0_3 qd0_4 qd0_5 qd0_6 qd0_7
  go_upto_region 4 with (go_at_call 14; (with_reducible refine (P0.out _ (KK.out.below L0.out)).mono ?_); rintro e2 w2 ⟨rfl, b2⟩)
  have nn := Cells.new w2 #[.int .u8 t0, .int .u32 t1, .int .u16 t2, .int .u32 t3, .int .u16 t4] 33
  have bn : Below wa.heap.size wa (w2.alloc (.cells #[.int .u8 t0, .int .u32 t1, .int .u16 t2, .int .u32 t3, .int .u16 t4] 33)) := bstep b2 (fresh_below _ _)
  replace D0 := hide (Cells.below bn D0.out)
  replace L0 := hide (bstep L0.out bn)
  clear bn b2
  generalize w2.heap.size = g5 at nn ⊢
  generalize (w2.alloc (.cells #[.int .u8 t0, .int .u32 t1, .int .u16 t2, .int .u32 t3, .int .u16 t4] 33)) = wb at *
  have kg5 := Cells.lt nn
  have D5 := hide nn
  clear nn
  go_wp2_with fail
  (with_reducible refine (P5.out _ (TT.out.below L0.out)).mono ?_)
  rintro e w1 ⟨rfl, b1⟩
  go_wp2_with fail
  go_ret
  exact ⟨rfl, bstep L0.out b1⟩
set_option maxRecDepth 1000000 in
set_option maxHeartbeats 32000000 in
theorem back_yes (s u v da dv r : ByteArray) (x7 : Bool) (ys yv x0 xa xb xc xd x5 x6 x8 oa ob oc od a b c d t0 t1 t2 t3 t4 : Int) (w : World) (T0 : Tabs w) (hl : ¬ (2500 : Int) < (s.size : Int))
    (q36 : decide ((v.size : Int) < 36) = false) (qs : decide (s.size < v.size) = false) (q28 : decide ((da.size : Int) < 28) = false) (q29 : decide ((dv.size : Int) < 28) = false)
    (i8 : 8 < v.size) (j8 : 8 < s.size) (ev : (((v[8]'i8).toNat : Nat) : Int) = yv) (es : (((s[8]'j8).toNat : Nat) : Int) = ys) (ew : IntKind.u8.wrap (ys - 2) = yv) (hvs : v.size ≤ s.size)
    (p0 : ∀ W, Kinds W → Calls Tryz.prog 14 #[.string s, .int .u8 2] W (Ret (.tuple #[.agg #[.int .u8 t0, .int .u32 t1, .int .u16 t2, .int .u32 t3, .int .u16 t4], .bool true]) W))
    (p3 : ∀ W, Kinds W → Calls Tryz.prog 19 #[.string s] W (Ret (.tuple #[.agg #[.int .u8 x0, .int .u32 xa, .int .u16 xb, .int .u32 xc, .int .u16 xd, .int .i64 x5, .int .u8 x6, .bool x7, .int .u8 x8], .int .i64 0]) W))
    (p1 : ∀ W, Kinds W → Calls Tryz.prog 11 #[.string s, .agg #[.int .u32 oa, .int .u16 ob, .int .u32 oc, .int .u16 od], .agg #[.int .u32 a, .int .u16 b, .int .u32 c, .int .u16 d]] W (Ret (.tuple #[.string u, .int .i64 0]) W))
    (p2 : ∀ W, Kinds W → Calls Tryz.prog 11 #[.string u, .agg #[.int .u32 xa, .int .u16 xb, .int .u32 xc, .int .u16 xd], .agg #[.int .u32 t1, .int .u16 t2, .int .u32 t3, .int .u16 t4]] W (Ret (.tuple #[.string v, .int .i64 0]) W))
    (p4 : ∀ W, Calls Tryz.prog 16 #[.string s] W (Ret (.string da) W)) (p5 : ∀ W, Calls Tryz.prog 16 #[.string v] W (Ret (.string dv) W))
    (p6 : ∀ W, Calls Tryz.prog 20 #[.string v] W (Ret (.string r) W)) (p7 : ∀ W, Calls Tryz.prog 20 #[.string (s.extract 0 v.size)] W (Ret (.string r) W)) :
    Calls Tryz.prog 6 #[.string s, .agg #[.int .u32 oa, .int .u16 ob, .int .u32 oc, .int .u16 od, .int .u32 a, .int .u16 b, .int .u32 c, .int .u16 d]] w (Ret (.bool true) w) := by
  have P0 := hide p0; have P1 := hide p1; have P2 := hide p2; have P3 := hide p3; have P4 := hide p4; have P5 := hide p5; have P6 := hide p6; have P7 := hide p7
  have PZ := hide (fun W T => tolds W T); have TT := hide T0; have KK := hide (show Kinds w from T0.1)
  have k1 : (8 : Int) < (v.size : Int) := by omega
  have k2 : (8 : Int) < (s.size : Int) := by omega
  have k3 : (v.size : Int) ≤ (s.size : Int) := by omega
  clear T0 p0 p1 p2 p3 p4 p5 p6 p7
  go_enter Tryz.func6, Tryz.ntmps6
  have d0 := Cells.new w #[.int .u32 oa, .int .u16 ob, .int .u32 oc, .int .u16 od, .int .u32 a, .int .u16 b, .int .u32 c, .int .u16 d] 30
  have l0 : Below w.heap.size w (w.alloc (.cells #[.int .u32 oa, .int .u16 ob, .int .u32 oc, .int .u16 od, .int .u32 a, .int .u16 b, .int .u32 c, .int .u16 d] 30)) := (fresh_below _ _)
  have L0 := hide l0; have D0 := hide d0
  clear l0 d0
  go_upto_region 1 with fail
  have l0 := L0.out; have d0 := D0.out
  clear L0 D0
  generalize (w.alloc (.cells #[.int .u32 oa, .int .u16 ob, .int .u32 oc, .int .u16 od, .int .u32 a, .int .u16 b, .int .u32 c, .int .u16 d] 30)) = wa at *
  obtain ⟨qd0_0, qd0_1, qd0_2, qd0_3, qd0_4, qd0_5, qd0_6, qd0_7⟩ := d0.q8
  have bb : Below wa.heap.size wa wa := Below.refl _ _
  have L0 := hide l0; have D0 := hide d0
  clear l0 d0
  clear bb qd0_0 qd0_1 qd0_2 qd0_3 qd0_4 qd0_5 qd0_6 qd0_7
  go_upto_region 4 with (go_at_call 14; (with_reducible refine (P0.out _ (KK.out.below L0.out)).mono ?_); rintro e2 w2 ⟨rfl, b2⟩)
  have nn := Cells.new w2 #[.int .u8 t0, .int .u32 t1, .int .u16 t2, .int .u32 t3, .int .u16 t4] 33
  have bn : Below wa.heap.size wa (w2.alloc (.cells #[.int .u8 t0, .int .u32 t1, .int .u16 t2, .int .u32 t3, .int .u16 t4] 33)) := bstep b2 (fresh_below _ _)
  replace D0 := hide (Cells.below bn D0.out)
  replace L0 := hide (bstep L0.out bn)
  clear bn b2
  generalize w2.heap.size = g5 at nn ⊢
  generalize (w2.alloc (.cells #[.int .u8 t0, .int .u32 t1, .int .u16 t2, .int .u32 t3, .int .u16 t4] 33)) = wb at *
  have kg5 := Cells.lt nn
  have D5 := hide nn
  clear nn
  go_upto_region 7 with (go_at_call 19; (with_reducible refine (P3.out _ (KK.out.below L0.out)).mono ?_); rintro e2 w2 ⟨rfl, b2⟩)
  have nn := Cells.new w2 #[.int .u8 x0, .int .u32 xa, .int .u16 xb, .int .u32 xc, .int .u16 xd, .int .i64 x5, .int .u8 x6, .bool x7, .int .u8 x8] 58
  have bn : Below wb.heap.size wb (w2.alloc (.cells #[.int .u8 x0, .int .u32 xa, .int .u16 xb, .int .u32 xc, .int .u16 xd, .int .i64 x5, .int .u8 x6, .bool x7, .int .u8 x8] 58)) := bstep b2 (fresh_below _ _)
  replace D0 := hide (Cells.below bn D0.out)
  replace D5 := hide (Cells.below bn D5.out)
  replace L0 := hide (bstep L0.out bn)
  clear bn b2
  generalize w2.heap.size = g7 at nn ⊢
  generalize (w2.alloc (.cells #[.int .u8 x0, .int .u32 xa, .int .u16 xb, .int .u32 xc, .int .u16 xd, .int .i64 x5, .int .u8 x6, .bool x7, .int .u8 x8] 58)) = wc at *
  have kg7 := Cells.lt nn
  have D7 := hide nn
  clear nn
  have ud0 := D0.out
  obtain ⟨xud0_0, xud0_1, xud0_2, xud0_3, xud0_4, xud0_5, xud0_6, xud0_7⟩ := ud0.x8
  clear ud0
  go_upto_region 8 with (go_at_call 11; (with_reducible refine (P1.out _ (KK.out.below L0.out)).mono ?_); rintro e2 w2 ⟨rfl, b2⟩)
  clear xud0_0 xud0_1 xud0_2 xud0_3 xud0_4 xud0_5 xud0_6 xud0_7
  have bn := b2
  replace D5 := hide (Cells.below bn D5.out)
  replace D7 := hide (Cells.below bn D7.out)
  replace L0 := hide (bstep L0.out bn)
  clear bn b2
  generalize w2 = wd at *
  have ud5 := D5.out
  obtain ⟨xud5_0, xud5_1, xud5_2, xud5_3, xud5_4⟩ := ud5.x5
  clear ud5
  have ud7 := D7.out
  obtain ⟨xud7_0, xud7_1, xud7_2, xud7_3, xud7_4, xud7_5, xud7_6, xud7_7, xud7_8⟩ := ud7.x9
  clear ud7
  go_upto_region 9 with (go_at_call 11; (with_reducible refine (P2.out _ (KK.out.below L0.out)).mono ?_); rintro e2 w2 ⟨rfl, b2⟩)
  clear xud5_0 xud5_1 xud5_2 xud5_3 xud5_4 xud7_0 xud7_1 xud7_2 xud7_3 xud7_4 xud7_5 xud7_6 xud7_7 xud7_8
  have bn := b2
  replace L0 := hide (bstep L0.out bn)
  clear bn b2
  generalize w2 = we at *
  clear D0 D5 D7 kg5 kg7
  have sA : Below we.heap.size we we.drew := Below.drew (Below.refl _ _)
  focus
    refine wp_region_J [] (fun W => Below we.heap.size we W) (by kernel_rfl) (sA) (fun hS0 => ?_)
    refine tJ 0 rfl hS0 ?_
    (try simp only [Act.put, putS])
    refine tJ 1 rfl hS0 ?_
    (try simp only [Act.put, putS])
    refine tJ 2 rfl hS0 ?_
    (try simp only [Act.put, putS])
    refine tJ 3 rfl hS0 ?_
    (try simp only [Act.put, putS])
    refine tJ 4 rfl hS0 ?_
    (try simp only [Act.put, putS])
    refine tJ 5 rfl hS0 ?_
    (try simp only [Act.put, putS])
    refine tJ 6 rfl hS0 ?_
    (try simp only [Act.put, putS])
    refine tJ 7 rfl hS0 ?_
    (try simp only [Act.put, putS])
    refine tJ 8 rfl hS0 ?_
    (try simp only [Act.put, putS])
    refine tJ 9 rfl hS0 ?_
    (try simp only [Act.put, putS])
    refine tJ 10 rfl hS0 ?_
    (try simp only [Act.put, putS])
    refine tJ 11 rfl hS0 ?_
    (try simp only [Act.put, putS])
    refine tJ 12 rfl hS0 ?_
    (try simp only [Act.put, putS])
    refine tJ 13 rfl hS0 ?_
    (try simp only [Act.put, putS])
    refine tJ 14 rfl hS0 ?_
    (try simp only [Act.put, putS])
    refine tJ 15 rfl hS0 ?_
    (try simp only [Act.put, putS])
    refine tJ 16 rfl hS0 ?_
    (try simp only [Act.put, putS])
    refine tJ 17 rfl hS0 ?_
    (try simp only [Act.put, putS])
    refine tJ 18 rfl hS0 ?_
    (try simp only [Act.put, putS])
    refine tJ 19 rfl hS0 ?_
    (try simp only [Act.put, putS])
    refine rJ [20] ?_
    refine (AllReadyJ.cons rfl (fun K hK => ?_) AllReadyJ.nil)
    rw [if_pos (by kernel_rfl)]
    (try simp only [putG])
    (focus go_simp)
    (focus ((with_reducible refine (P4.out _).mono ?_); rintro e wr ⟨rfl, br⟩; have sq := bstep hS0 br))
    (focus (try go_wp2_with fail))
    refine hK.out _ _ ?hs (fun hS0 => ?_)
    case hs => (first | with_reducible exact hS0 | with_reducible exact sq)
    clear hK K
    (try simp only [Act.put, putS])
    refine tJ 21 rfl hS0 ?_
    (try simp only [Act.put, putS])
    refine tJ 22 rfl hS0 ?_
    (try simp only [Act.put, putS])
    refine tJ 23 rfl hS0 ?_
    (try simp only [Act.put, putS])
    refine tJ 24 rfl hS0 ?_
    (try simp only [Act.put, putS])
    refine tJ 25 rfl hS0 ?_
    (try simp only [Act.put, putS])
    refine rJ [26] ?_
    refine (AllReadyJ.cons rfl (fun K hK => ?_) AllReadyJ.nil)
    rw [if_pos (by kernel_rfl)]
    (try simp only [putG])
    (focus go_simp)
    (focus ((with_reducible refine (P5.out _).mono ?_); rintro e wt ⟨rfl, bt⟩; have sq := bstep hS0 bt))
    (focus (try go_wp2_with fail))
    refine hK.out _ _ ?hs (fun hS0 => ?_)
    case hs => (first | with_reducible exact hS0 | with_reducible exact sq)
    clear hK K
    (try simp only [Act.put, putS])
    refine tJ 27 rfl hS0 ?_
    (try simp only [Act.put, putS])
    refine tJ 28 rfl hS0 ?_
    (try simp only [Act.put, putS])
    refine tJ 29 rfl hS0 ?_
    (try simp only [Act.put, putS])
    refine tJ 30 rfl hS0 ?_
    (try simp only [Act.put, putS])
    refine tJ 31 rfl hS0 ?_
    (try simp only [Act.put, putS])
    refine tJ 32 rfl hS0 ?_
    (try simp only [Act.put, putS])
    refine tJ 33 rfl hS0 ?_
    (try simp only [Act.put, putS])
    refine tJ 34 rfl hS0 ?_
    (try simp only [Act.put, putS])
    refine tJ 35 rfl hS0 ?_
    (try simp only [Act.put, putS])
    refine tJ 36 rfl hS0 ?_
    (try simp only [Act.put, putS])
    refine tJ 37 rfl hS0 ?_
    (try simp only [Act.put, putS])
    refine wpAnyJ_done (by kernel_rfl) ?_ _
  clear sA sq q36 qs q28 q29 i8 j8 ev es ew k1 k2 br bt
  go_upto_region 11 with fail
  have sB : Below we.heap.size we wt.drew := Below.drew hS0
  clear hS0
  focus
    refine wp_region_J [] (fun W => Below we.heap.size we W) (by kernel_rfl) (sB) (fun hS0 => ?_)
    refine tJ 0 rfl hS0 ?_
    (try simp only [Act.put, putS])
    refine tJ 2 rfl hS0 ?_
    (try simp only [Act.put, putS])
    refine tJ 3 rfl hS0 ?_
    (try simp only [Act.put, putS])
    refine tJ 4 rfl hS0 ?_
    (try simp only [Act.put, putS])
    refine tJ 5 rfl hS0 ?_
    (try simp only [Act.put, putS])
    refine rJ [1] ?_
    refine (AllReadyJ.cons rfl (fun K hK => ?_) AllReadyJ.nil)
    rw [if_pos (by kernel_rfl)]
    (try simp only [putG])
    (focus go_simp)
    (focus ((with_reducible refine (P6.out _).mono ?_); rintro e wu ⟨rfl, bu⟩; have sq := bstep hS0 bu))
    (focus (try go_wp2_with fail))
    refine hK.out _ _ ?hs (fun hS0 => ?_)
    case hs => (first | with_reducible exact hS0 | with_reducible exact sq)
    clear hK K
    (try simp only [Act.put, putS])
    refine rJ [6] ?_
    refine (AllReadyJ.cons rfl (fun K hK => ?_) AllReadyJ.nil)
    rw [if_pos (by kernel_rfl)]
    (try simp only [putG])
    (focus go_simp)
    (focus ((with_reducible refine (P7.out _).mono ?_); rintro e wv ⟨rfl, bv⟩; have sq := bstep hS0 bv))
    (focus (try go_wp2_with fail))
    refine hK.out _ _ ?hs (fun hS0 => ?_)
    case hs => (first | with_reducible exact hS0 | with_reducible exact sq)
    clear hK K
    (try simp only [Act.put, putS])
    refine tJ 7 rfl hS0 ?_
    (try simp only [Act.put, putS])
    refine tJ 8 rfl hS0 ?_
    (try simp only [Act.put, putS])
    refine rJ [9] ?_
    refine (AllReadyJ.cons rfl (fun K hK => ?_) AllReadyJ.nil)
    rw [if_pos (by kernel_rfl)]
    (try simp only [putG])
    (focus go_simp)
    (focus ((with_reducible refine (PZ.out _ (TT.out.below (bstep L0.out hS0))).mono ?_); rintro e wz ⟨rfl, bz⟩; have sq := bstep hS0 bz))
    (focus (try go_wp2_with fail))
    refine hK.out _ _ ?hs (fun hS0 => ?_)
    case hs => (first | with_reducible exact hS0 | with_reducible exact sq)
    clear hK K
    (try simp only [Act.put, putS])
    refine tJ 10 rfl hS0 ?_
    (try simp only [Act.put, putS])
    refine tJ 11 rfl hS0 ?_
    (try simp only [Act.put, putS])
    refine wpAnyJ_done (by kernel_rfl) ?_ _
  go_wp2_with fail
  go_ret
  exact ⟨rfl, bstep L0.out hS0⟩
end Go.Proofs.YtjeaknipmdfkdaaGreatDoor
end

section
/- EmbedsBack: the joins. -/
set_option linter.unusedVariables false
set_option linter.unusedSimpArgs false
namespace Go.Proofs.YtjeaknipmdfkdaaGreatDoor
open Go.RowKit

set_option maxHeartbeats 2000000 in
theorem EmbedsBack_walk (s : ByteArray) (oa ob oc od a b c d : Int) (w : World) (T0 : Tabs w) (hs : s.size ≤ 140737488351232) (hoa : 0 ≤ oa ∧ oa ≤ 4294967295) (hob : 0 ≤ ob ∧ ob ≤ 65535) (hoc : 0 ≤ oc ∧ oc ≤ 4294967295) (hod : 0 ≤ od ∧ od ≤ 65535) (ha : 0 ≤ a ∧ a ≤ 4294967295) (hb : 0 ≤ b ∧ b ≤ 65535) (hc : 0 ≤ c ∧ c ≤ 4294967295) (hd : 0 ≤ d ∧ d ≤ 65535) :
    Calls Tryz.prog 6 #[.string s, .agg #[.int .u32 oa, .int .u16 ob, .int .u32 oc, .int .u16 od, .int .u32 a, .int .u16 b, .int .u32 c, .int .u16 d]] w (Ret (.bool true) w) := by
  by_cases hl : (2500 : Int) < (s.size : Int)
  · exact back_long s oa ob oc od a b c d w T0 hl
  have p0 := fun W K => takenE s 2 W K hs
  by_cases ht : emsWhy s = 0 ∧ 2 < (seenOf s).l
  · have p1 := fun W K => e_Translate oa ob oc od a b c d s W K hoa hob hoc hod ha hb hc hd hs
    rw [tkOk_yes ht.1 ht.2, inTup_of ht.1] at p0
    obtain ⟨u, hu⟩ : ∃ u, trOut s oa ob oc od a b c d = u := ⟨_, rfl⟩
    obtain ⟨v, hv⟩ : ∃ v, trOut u (seenOf s).t.a (seenOf s).t.b (seenOf s).t.c (seenOf s).t.d (emTup (L (emData s))).a (emTup (L (emData s))).b (emTup (L (emData s))).c (emTup (L (emData s))).d = v := ⟨_, rfl⟩
    obtain ⟨e1, e2, e3, e4, e5, e6, e7, e8, e9, e10, e11, e12⟩ := em_backs (ob := ob) (od := od) ht.1 ht.2 hoa hoc ha hb hc hd u v hu hv
    rw [hu, e1] at p1
    have tok := emTup_ok (L (emData s))
    obtain ⟨_, ta, tb, tc, td⟩ := tok
    obtain ⟨sw, sk, _⟩ := ems_seen ht.1
    have sok : (0 ≤ (seenOf s).t.a ∧ (seenOf s).t.a ≤ 4294967295) ∧ (0 ≤ (seenOf s).t.b ∧ (seenOf s).t.b ≤ 65535) ∧ (0 ≤ (seenOf s).t.c ∧ (seenOf s).t.c ≤ 4294967295) ∧ (0 ≤ (seenOf s).t.d ∧ (seenOf s).t.d ≤ 65535) := by
      obtain ⟨H, P, R, hs', w', h9, h8, hk, hem, _⟩ := tr_parts (oa := oa) (ob := ob) (oc := oc) (od := od) (a := a) (b := b) (c := c) (d := d) ht.1 (show 1 < (seenOf s).l by omega)
      obtain ⟨s1, s2, _⟩ := err_of R w' h9 h8 hk hem
      rw [← hs'] at s2
      rw [s2]
      exact ⟨be32_bd _ _, ⟨(by decide : (0 : Int) ≤ 0), (by decide : (0 : Int) ≤ 65535)⟩, be32_bd _ _, ⟨(by decide : (0 : Int) ≤ 0), (by decide : (0 : Int) ≤ 65535)⟩⟩
    have p2 := fun W K => e_Translate (seenOf s).t.a (seenOf s).t.b (seenOf s).t.c (seenOf s).t.d (emTup (L (emData s))).a (emTup (L (emData s))).b (emTup (L (emData s))).c (emTup (L (emData s))).d u W K sok.1 sok.2.1 sok.2.2.1 sok.2.2.2 ta tb tc td (by omega)
    rw [hv, e2] at p2
    have p3 := fun W K => tu_Of s W K hs
    rw [sw] at p3
    unfold Seen.cells at p3
    have r1 := rest_size s; have r2 := rest_size v
    have p4 := fun W => dataE s (ipRest s) (emData s) W hs rfl e7 (by omega) rfl
    have p5 := fun W => dataE v (ipRest v) (emData v) W (by omega) rfl e10.1 (by omega) rfl
    have p6 := fun W => plainW v W (by omega) e10
    have p7 := fun W => plainW (s.extract 0 v.size) W (by rw [ByteArray.size_extract]; omega) e11
    rw [← e12] at p7
    have q28 := e10.2.1
    have b8 := at_bd (L s) 8
    exact back_yes s u v (emData s) (emData v) (plainS v) _ (at_ (L s) 8) (at_ (L v) 8) _ _ _ _ _ _ _ _ oa ob oc od a b c d _ _ _ _ _ w T0 hl
      (decide_eq_false (by omega)) (decide_eq_false (by omega)) (decide_eq_false (by omega)) (decide_eq_false (by omega)) (by omega) (by omega) (by rw [getElem_L v 8 (by omega)]; rfl) (by rw [getElem_L s 8 (by omega)]; rfl) (by rw [IntKind.wrap_u8, e8]; omega) (by omega)
      p0 p3 p1 p2 p4 p5 p6 p7
  · rw [tkOk_no ht] at p0
    exact back_no s oa ob oc od a b c d _ _ _ _ _ w T0 hl p0
end Go.Proofs.YtjeaknipmdfkdaaGreatDoor
end
