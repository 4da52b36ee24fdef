/- Several texts of this claim, one behind the other. -/
import Derived.Test.YtpidgmamollmgaaDoorM31
import Derived.Test.YtpidgmamollmgaaDoorM33a
import Derived.Test.YtpidgmamollmgaaDoorM34a
import Derived.BigRegion
import Derived.Deep.RegionHeld3
import Derived.Deep.LoopGhost
import Derived.Deep.DeepCutAuto
import Derived.Deep.CutBlock
import Derived.ProofKit
import Derived.OpenShut
import Derived.SizedLaws
import Derived.Test.YtpidgmamollmgaaDoorM0

section
/- RewriteSeen walked. -/
set_option linter.unusedVariables false
set_option linter.unusedSimpArgs false
namespace Go.Proofs.YtpidgmamollmgaaDoor
open Go.RowKit
attribute [local go_sem] Oper.semAt_some

set_option maxRecDepth 100000 in
set_option maxHeartbeats 4000000 in
theorem seen_long (s : ByteArray) (a b c d : Int) (w : World) (T0 : Tabs w) (q0 : (2500 : Int) < (s.size : Int)) (p5 : ∀ W, Tabs W → Calls Tryd.prog 6 #[] W (Ret (.bool true) W)) :
    Calls Tryd.prog 3 #[.string s, .agg #[.int .u32 a, .int .u16 b, .int .u32 c, .int .u16 d]] w (Ret (.bool true) w) := by
  have P5 := hide p5; have TT := hide T0
  clear p5 T0
  go_enter Tryd.func3, Tryd.ntmps3
  have d0 := Cells.new w #[.int .u32 a, .int .u16 b, .int .u32 c, .int .u16 d] 28
  have l0 := fresh_below w (.cells #[.int .u32 a, .int .u16 b, .int .u32 c, .int .u16 d] 28)
  have B0 := hide l0; have D0 := hide d0
  clear l0 d0
  go_wp2_with fail
  have l0 := B0.out; have d0 := D0.out
  clear B0 D0
  generalize (w.alloc (.cells #[.int .u32 a, .int .u16 b, .int .u32 c, .int .u16 d] 28)) = w0 at *
  (with_reducible refine (P5.out _ (TT.out.below l0)).mono ?_)
  rintro e w1 ⟨rfl, l1⟩
  replace l1 := bstep l0 l1
  go_wp2_with fail
  go_ret
  exact ⟨rfl, l1⟩

set_option maxRecDepth 100000 in
set_option maxHeartbeats 4000000 in
theorem seen_no (s : ByteArray) (a b c d x0 x1 x2 x3 x4 x5 x6 x8 r : Int) (x7 : Bool) (t : ByteArray) (w : World) (T0 : Tabs w) (q0 : ¬ (2500 : Int) < (s.size : Int)) (q1 : (r != 0) = true) (q2 : (r == 0) = false) (p5 : ∀ W, Tabs W → Calls Tryd.prog 6 #[] W (Ret (.bool true) W)) (p0 : ∀ W, Kinds W → Calls Tryd.prog 7 #[.string s, .int .u8 1] W (Ret (.tuple #[.agg #[.int .u8 x0, .int .u32 x1, .int .u16 x2, .int .u32 x3, .int .u16 x4, .int .i64 x5, .int .u8 x6, .bool x7, .int .u8 x8], .bool false]) W)) (p1 : ∀ W, Kinds W → Calls Tryd.prog 8 #[.string s, .agg #[.int .u32 a, .int .u16 b, .int .u32 c, .int .u16 d]] W (Ret (.tuple #[.string t, .int .i64 r]) W)) :
    Calls Tryd.prog 3 #[.string s, .agg #[.int .u32 a, .int .u16 b, .int .u32 c, .int .u16 d]] w (Ret (.bool true) w) := by
  have P5 := hide p5; have P0 := hide p0; have P1 := hide p1; have TT := hide T0; have KK := hide (show Kinds w from And.left T0)
  clear p5 p0 p1 T0
  go_enter Tryd.func3, Tryd.ntmps3
  have d0 := Cells.new w #[.int .u32 a, .int .u16 b, .int .u32 c, .int .u16 d] 28
  have l0 := fresh_below w (.cells #[.int .u32 a, .int .u16 b, .int .u32 c, .int .u16 d] 28)
  have B0 := hide l0; have D0 := hide d0
  clear l0 d0
  go_wp2_with fail
  have l0 := B0.out; have d0 := D0.out
  clear B0 D0
  generalize (w.alloc (.cells #[.int .u32 a, .int .u16 b, .int .u32 c, .int .u16 d] 28)) = w0 at *
  (with_reducible refine (P0.out _ (KK.out.below l0)).mono ?_)
  rintro e w1 ⟨rfl, l1⟩
  replace d0 := Cells.below l1 d0
  replace l1 := bstep l0 l1
  replace d0 := Cells.alloc d0 (.cells #[.int .u8 x0, .int .u32 x1, .int .u16 x2, .int .u32 x3, .int .u16 x4, .int .i64 x5, .int .u8 x6, .bool x7, .int .u8 x8] 33)
  replace l1 := bstep l1 (fresh_below _ (.cells #[.int .u8 x0, .int .u32 x1, .int .u16 x2, .int .u32 x3, .int .u16 x4, .int .i64 x5, .int .u8 x6, .bool x7, .int .u8 x8] 33))
  have xd0_0 : ((w1.alloc (.cells #[.int .u8 x0, .int .u32 x1, .int .u16 x2, .int .u32 x3, .int .u16 x4, .int .i64 x5, .int .u8 x6, .bool x7, .int .u8 x8] 33))).cell? ⟨w.heap.size, 0, none⟩ = some (.int .u32 a) := d0.at_ 0
  have xd0_1 : ((w1.alloc (.cells #[.int .u8 x0, .int .u32 x1, .int .u16 x2, .int .u32 x3, .int .u16 x4, .int .i64 x5, .int .u8 x6, .bool x7, .int .u8 x8] 33))).cell? ⟨w.heap.size, 1, none⟩ = some (.int .u16 b) := d0.at_ 1
  have xd0_2 : ((w1.alloc (.cells #[.int .u8 x0, .int .u32 x1, .int .u16 x2, .int .u32 x3, .int .u16 x4, .int .i64 x5, .int .u8 x6, .bool x7, .int .u8 x8] 33))).cell? ⟨w.heap.size, 2, none⟩ = some (.int .u32 c) := d0.at_ 2
  have xd0_3 : ((w1.alloc (.cells #[.int .u8 x0, .int .u32 x1, .int .u16 x2, .int .u32 x3, .int .u16 x4, .int .i64 x5, .int .u8 x6, .bool x7, .int .u8 x8] 33))).cell? ⟨w.heap.size, 3, none⟩ = some (.int .u16 d) := d0.at_ 3
  have B1 := hide l1
  clear l1
  go_wp2_with fail
  have l1 := B1.out
  (with_reducible refine (P1.out _ (KK.out.below l1)).mono ?_)
  rintro e w2 ⟨rfl, l2⟩
  replace l2 := bstep l1 l2
  go_wp2_with fail
  (with_reducible refine (P5.out _ (TT.out.below l2)).mono ?_)
  rintro e w3 ⟨rfl, l3⟩
  replace l3 := bstep l2 l3
  go_wp2_with fail
  go_ret
  exact ⟨rfl, l3⟩

set_option maxRecDepth 100000 in
set_option maxHeartbeats 16000000 in
theorem seen_yes (s t m : ByteArray) (a b c d x0 x1 x2 x3 x4 x5 x6 x8 xl yb yd y k : Int) (x7 : Bool) (w : World) (T0 : Tabs w) (q0 : ¬ (2500 : Int) < (s.size : Int)) (q1 : ¬ (s.size : Int) < (t.size : Int)) (q2 : ¬ (t.size : Int) < 20) (q3 : (t.size : Int) ≤ (s.size : Int)) (q4 : ¬ s.size < t.size)
    (i5 : 0 < t.size) (i4 : (0 : Int) < (t.size : Int)) (hb : 0 ≤ y ∧ y ≤ 255) (e0 : (((t[0]'i5).toNat : Nat) : Int) = y) (ew : IntKind.u8.wrap (x8 - 1) = xl) (em : s.extract 0 t.size = m) (zm : m.size = t.size) (hk : 0 ≤ k ∧ k ≤ 200)
    (hsw : (x5 = 3 ∧ yb = x2 ∧ yd = x4) ∨ (x5 ≠ 3 ∧ x0 ≠ 1 ∧ yb = b ∧ yd = d) ∨ (x5 ≠ 3 ∧ x0 = 1 ∧ x7 = true ∧ yb = b ∧ yd = x4) ∨ (x5 ≠ 3 ∧ x0 = 1 ∧ x7 = false ∧ yb = x2 ∧ yd = d))
    (hok : ∀ j : Nat, j < t.size → at_ (L m) j = at_ (L t) j ∨ (8 ≤ j ∧ j < 20 ∧ j ≠ 9) ∨ ((x0 ≠ 1 ∧ y % 16 * 4 ≤ (j : Int) ∧ (j : Int) < y % 16 * 4 + 4) ∨ (x0 = 1 ∧ 0 < k ∧ y % 16 * 4 + 4 ≤ (j : Int) ∧ (j : Int) < y % 16 * 4 + 6)) ∨ (k ≠ 0 ∧ ((j : Int) = k ∨ (j : Int) = k + 1)))
    (p5 : ∀ W, Tabs W → Calls Tryd.prog 6 #[] W (Ret (.bool true) W)) (p0 : ∀ W, Kinds W → Calls Tryd.prog 7 #[.string s, .int .u8 1] W (Ret (.tuple #[.agg #[.int .u8 x0, .int .u32 x1, .int .u16 x2, .int .u32 x3, .int .u16 x4, .int .i64 x5, .int .u8 x6, .bool x7, .int .u8 x8], .bool true]) W)) (p1 : ∀ W, Kinds W → Calls Tryd.prog 8 #[.string s, .agg #[.int .u32 a, .int .u16 b, .int .u32 c, .int .u16 d]] W (Ret (.tuple #[.string t, .int .i64 0]) W)) (p2 : ∀ W, Kinds W → Calls Tryd.prog 9 #[.string t] W (Ret (.tuple #[.agg #[.int .u8 x0, .int .u32 a, .int .u16 yb, .int .u32 c, .int .u16 yd, .int .i64 x5, .int .u8 x6, .bool x7, .int .u8 xl], .int .i64 0]) W)) (p3 : ∀ W, Kinds W → Calls Tryd.prog 10 #[.string t] W (Ret (.int .i64 k) W)) :
    Calls Tryd.prog 3 #[.string s, .agg #[.int .u32 a, .int .u16 b, .int .u32 c, .int .u16 d]] w (Ret (.bool true) w) := by
  have P5 := hide p5; have P0 := hide p0; have P1 := hide p1; have P2 := hide p2; have P3 := hide p3; have TT := hide T0; have KK := hide (show Kinds w from And.left T0)
  have HSW := hide hsw; have HOK := hide hok; have HB := hide hb; have HKB := hide hk; have EM := hide em; have ZM := hide zm; have E0 := hide e0; have EW := hide ew
  clear p5 p0 p1 p2 p3 T0 hsw hok hb hk em zm e0 ew
  go_enter Tryd.func3, Tryd.ntmps3
  have d0 := Cells.new w #[.int .u32 a, .int .u16 b, .int .u32 c, .int .u16 d] 28
  have l0 := fresh_below w (.cells #[.int .u32 a, .int .u16 b, .int .u32 c, .int .u16 d] 28)
  have B0 := hide l0; have D0 := hide d0
  clear l0 d0
  go_wp2_with fail
  have l0 := B0.out; have d0 := D0.out
  clear B0 D0
  generalize (w.alloc (.cells #[.int .u32 a, .int .u16 b, .int .u32 c, .int .u16 d] 28)) = w0 at *
  (with_reducible refine (P0.out _ (KK.out.below l0)).mono ?_)
  rintro e w1 ⟨rfl, l1⟩
  replace d0 := Cells.below l1 d0
  replace l1 := bstep l0 l1
  have dd := d0
  replace d0 := Cells.alloc d0 (.cells #[.int .u8 x0, .int .u32 x1, .int .u16 x2, .int .u32 x3, .int .u16 x4, .int .i64 x5, .int .u8 x6, .bool x7, .int .u8 x8] 33)
  have f0 := Cells.new w1 #[.int .u8 x0, .int .u32 x1, .int .u16 x2, .int .u32 x3, .int .u16 x4, .int .i64 x5, .int .u8 x6, .bool x7, .int .u8 x8] 33
  have nx : w.heap.size < w1.heap.size := Cells.lt (show Cells w1 w.heap.size #[.int .u32 a, .int .u16 b, .int .u32 c, .int .u16 d] 28 from dd)
  replace l1 := bstep l1 (fresh_below _ (.cells #[.int .u8 x0, .int .u32 x1, .int .u16 x2, .int .u32 x3, .int .u16 x4, .int .i64 x5, .int .u8 x6, .bool x7, .int .u8 x8] 33))
  have xd0_0 : ((w1.alloc (.cells #[.int .u8 x0, .int .u32 x1, .int .u16 x2, .int .u32 x3, .int .u16 x4, .int .i64 x5, .int .u8 x6, .bool x7, .int .u8 x8] 33))).cell? ⟨w.heap.size, 0, none⟩ = some (.int .u32 a) := d0.at_ 0
  have xd0_1 : ((w1.alloc (.cells #[.int .u8 x0, .int .u32 x1, .int .u16 x2, .int .u32 x3, .int .u16 x4, .int .i64 x5, .int .u8 x6, .bool x7, .int .u8 x8] 33))).cell? ⟨w.heap.size, 1, none⟩ = some (.int .u16 b) := d0.at_ 1
  have xd0_2 : ((w1.alloc (.cells #[.int .u8 x0, .int .u32 x1, .int .u16 x2, .int .u32 x3, .int .u16 x4, .int .i64 x5, .int .u8 x6, .bool x7, .int .u8 x8] 33))).cell? ⟨w.heap.size, 2, none⟩ = some (.int .u32 c) := d0.at_ 2
  have xd0_3 : ((w1.alloc (.cells #[.int .u8 x0, .int .u32 x1, .int .u16 x2, .int .u32 x3, .int .u16 x4, .int .i64 x5, .int .u8 x6, .bool x7, .int .u8 x8] 33))).cell? ⟨w.heap.size, 3, none⟩ = some (.int .u16 d) := d0.at_ 3
  have F0 := hide f0; have D0 := hide d0; have B1 := hide l1; have NL := hide nx
  clear f0 d0 l1 nx
  go_wp2_with fail
  have f0 := F0.out; have d0 := D0.out; have l1 := B1.out
  clear F0 B1 D0 xd0_0 xd0_1 xd0_2 xd0_3
  (with_reducible refine (P1.out _ (KK.out.below l1)).mono ?_)
  rintro e w2 ⟨rfl, l2⟩
  replace d0 := Cells.below l2 d0
  replace f0 := Cells.below l2 f0
  replace l2 := bstep l1 l2
  clear dd
  go_wp2_with fail
  (with_reducible refine (P2.out _ (KK.out.below l2)).mono ?_)
  rintro e w3 ⟨rfl, l3⟩
  replace d0 := Cells.below l3 d0
  replace f0 := Cells.below l3 f0
  replace l3 := bstep l2 l3
  have ny : w1.heap.size < w3.heap.size := f0.lt
  replace d0 := Cells.alloc d0 (.cells #[.int .u8 x0, .int .u32 a, .int .u16 yb, .int .u32 c, .int .u16 yd, .int .i64 x5, .int .u8 x6, .bool x7, .int .u8 xl] 33)
  replace f0 := Cells.alloc f0 (.cells #[.int .u8 x0, .int .u32 a, .int .u16 yb, .int .u32 c, .int .u16 yd, .int .i64 x5, .int .u8 x6, .bool x7, .int .u8 xl] 33)
  have g0 := Cells.new w3 #[.int .u8 x0, .int .u32 a, .int .u16 yb, .int .u32 c, .int .u16 yd, .int .i64 x5, .int .u8 x6, .bool x7, .int .u8 xl] 33
  replace l3 := bstep l3 (fresh_below _ (.cells #[.int .u8 x0, .int .u32 a, .int .u16 yb, .int .u32 c, .int .u16 yd, .int .i64 x5, .int .u8 x6, .bool x7, .int .u8 xl] 33))
  have NCX := hide (show w.heap.size ≠ w1.heap.size by have := NL.out; omega)
  have NYX := hide (show w3.heap.size ≠ w1.heap.size by omega)
  have xf0_0 : ((w3.alloc (.cells #[.int .u8 x0, .int .u32 a, .int .u16 yb, .int .u32 c, .int .u16 yd, .int .i64 x5, .int .u8 x6, .bool x7, .int .u8 xl] 33))).cell? ⟨w1.heap.size, 0, none⟩ = some (.int .u8 x0) := f0.at_ 0
  have xf0_1 : ((w3.alloc (.cells #[.int .u8 x0, .int .u32 a, .int .u16 yb, .int .u32 c, .int .u16 yd, .int .i64 x5, .int .u8 x6, .bool x7, .int .u8 xl] 33))).cell? ⟨w1.heap.size, 1, none⟩ = some (.int .u32 x1) := f0.at_ 1
  have xf0_2 : ((w3.alloc (.cells #[.int .u8 x0, .int .u32 a, .int .u16 yb, .int .u32 c, .int .u16 yd, .int .i64 x5, .int .u8 x6, .bool x7, .int .u8 xl] 33))).cell? ⟨w1.heap.size, 2, none⟩ = some (.int .u16 x2) := f0.at_ 2
  have xf0_3 : ((w3.alloc (.cells #[.int .u8 x0, .int .u32 a, .int .u16 yb, .int .u32 c, .int .u16 yd, .int .i64 x5, .int .u8 x6, .bool x7, .int .u8 xl] 33))).cell? ⟨w1.heap.size, 3, none⟩ = some (.int .u32 x3) := f0.at_ 3
  have xf0_4 : ((w3.alloc (.cells #[.int .u8 x0, .int .u32 a, .int .u16 yb, .int .u32 c, .int .u16 yd, .int .i64 x5, .int .u8 x6, .bool x7, .int .u8 xl] 33))).cell? ⟨w1.heap.size, 4, none⟩ = some (.int .u16 x4) := f0.at_ 4
  have xf0_5 : ((w3.alloc (.cells #[.int .u8 x0, .int .u32 a, .int .u16 yb, .int .u32 c, .int .u16 yd, .int .i64 x5, .int .u8 x6, .bool x7, .int .u8 xl] 33))).cell? ⟨w1.heap.size, 5, none⟩ = some (.int .i64 x5) := f0.at_ 5
  have xf0_6 : ((w3.alloc (.cells #[.int .u8 x0, .int .u32 a, .int .u16 yb, .int .u32 c, .int .u16 yd, .int .i64 x5, .int .u8 x6, .bool x7, .int .u8 xl] 33))).cell? ⟨w1.heap.size, 6, none⟩ = some (.int .u8 x6) := f0.at_ 6
  have xf0_7 : ((w3.alloc (.cells #[.int .u8 x0, .int .u32 a, .int .u16 yb, .int .u32 c, .int .u16 yd, .int .i64 x5, .int .u8 x6, .bool x7, .int .u8 xl] 33))).cell? ⟨w1.heap.size, 7, none⟩ = some (.bool x7) := f0.at_ 7
  have xf0_8 : ((w3.alloc (.cells #[.int .u8 x0, .int .u32 a, .int .u16 yb, .int .u32 c, .int .u16 yd, .int .i64 x5, .int .u8 x6, .bool x7, .int .u8 xl] 33))).cell? ⟨w1.heap.size, 8, none⟩ = some (.int .u8 x8) := f0.at_ 8
  have yf0_0 : ((w3.alloc (.cells #[.int .u8 x0, .int .u32 a, .int .u16 yb, .int .u32 c, .int .u16 yd, .int .i64 x5, .int .u8 x6, .bool x7, .int .u8 xl] 33))).frozen? ⟨w1.heap.size, 0, none⟩ = false := f0.free 0
  have yf0_1 : ((w3.alloc (.cells #[.int .u8 x0, .int .u32 a, .int .u16 yb, .int .u32 c, .int .u16 yd, .int .i64 x5, .int .u8 x6, .bool x7, .int .u8 xl] 33))).frozen? ⟨w1.heap.size, 1, none⟩ = false := f0.free 1
  have yf0_2 : ((w3.alloc (.cells #[.int .u8 x0, .int .u32 a, .int .u16 yb, .int .u32 c, .int .u16 yd, .int .i64 x5, .int .u8 x6, .bool x7, .int .u8 xl] 33))).frozen? ⟨w1.heap.size, 2, none⟩ = false := f0.free 2
  have yf0_3 : ((w3.alloc (.cells #[.int .u8 x0, .int .u32 a, .int .u16 yb, .int .u32 c, .int .u16 yd, .int .i64 x5, .int .u8 x6, .bool x7, .int .u8 xl] 33))).frozen? ⟨w1.heap.size, 3, none⟩ = false := f0.free 3
  have yf0_4 : ((w3.alloc (.cells #[.int .u8 x0, .int .u32 a, .int .u16 yb, .int .u32 c, .int .u16 yd, .int .i64 x5, .int .u8 x6, .bool x7, .int .u8 xl] 33))).frozen? ⟨w1.heap.size, 4, none⟩ = false := f0.free 4
  have yf0_5 : ((w3.alloc (.cells #[.int .u8 x0, .int .u32 a, .int .u16 yb, .int .u32 c, .int .u16 yd, .int .i64 x5, .int .u8 x6, .bool x7, .int .u8 xl] 33))).frozen? ⟨w1.heap.size, 5, none⟩ = false := f0.free 5
  have yf0_6 : ((w3.alloc (.cells #[.int .u8 x0, .int .u32 a, .int .u16 yb, .int .u32 c, .int .u16 yd, .int .i64 x5, .int .u8 x6, .bool x7, .int .u8 xl] 33))).frozen? ⟨w1.heap.size, 6, none⟩ = false := f0.free 6
  have yf0_7 : ((w3.alloc (.cells #[.int .u8 x0, .int .u32 a, .int .u16 yb, .int .u32 c, .int .u16 yd, .int .i64 x5, .int .u8 x6, .bool x7, .int .u8 xl] 33))).frozen? ⟨w1.heap.size, 7, none⟩ = false := f0.free 7
  have yf0_8 : ((w3.alloc (.cells #[.int .u8 x0, .int .u32 a, .int .u16 yb, .int .u32 c, .int .u16 yd, .int .i64 x5, .int .u8 x6, .bool x7, .int .u8 xl] 33))).frozen? ⟨w1.heap.size, 8, none⟩ = false := f0.free 8
  have f4 : Cells ((w3.alloc (.cells #[.int .u8 x0, .int .u32 a, .int .u16 yb, .int .u32 c, .int .u16 yd, .int .i64 x5, .int .u8 x6, .bool x7, .int .u8 xl] 33)).setCell ⟨w1.heap.size, 8, none⟩ (.int .u8 xl)) w1.heap.size #[.int .u8 x0, .int .u32 x1, .int .u16 x2, .int .u32 x3, .int .u16 x4, .int .i64 x5, .int .u8 x6, .bool x7, .int .u8 xl] 33 := f0.set_ 8 (.int .u8 xl)
  have d4 := d0.other NCX.out 8 (.int .u8 xl)
  have g4 := g0.other NYX.out 8 (.int .u8 xl)
  have l4 : Below w.heap.size w ((w3.alloc (.cells #[.int .u8 x0, .int .u32 a, .int .u16 yb, .int .u32 c, .int .u16 yd, .int .i64 x5, .int .u8 x6, .bool x7, .int .u8 xl] 33)).setCell ⟨w1.heap.size, 8, none⟩ (.int .u8 xl)) := Below.setCell l3 (by have := NL.out; dsimp only; omega) _
  have F4 := hide f4; have D4 := hide d4; have G4 := hide g4; have L4 := hide l4; have NY := hide ny
  clear f4 d4 g4 l4 f0 d0 g0 l3 ny
  have ew := EW.out
  go_upto_region 11 with fail
  clear ew
  generalize ((w3.alloc (.cells #[.int .u8 x0, .int .u32 a, .int .u16 yb, .int .u32 c, .int .u16 yd, .int .i64 x5, .int .u8 x6, .bool x7, .int .u8 xl] 33)).setCell ⟨w1.heap.size, 8, none⟩ (.int .u8 xl)) = w5 at *
  go_cut [] (fun wx => Cells wx w1.heap.size #[.int .u8 x0, .int .u32 a, .int .u16 x2, .int .u32 c, .int .u16 x4, .int .i64 x5, .int .u8 x6, .bool x7, .int .u8 xl] 33 ∧ Cells wx w.heap.size #[.int .u32 a, .int .u16 b, .int .u32 c, .int .u16 d] 28 ∧ Cells wx w3.heap.size #[.int .u8 x0, .int .u32 a, .int .u16 yb, .int .u32 c, .int .u16 yd, .int .i64 x5, .int .u8 x6, .bool x7, .int .u8 xl] 33 ∧ Below w.heap.size w wx)
  case first =>
    have f4 := F4.out; have d4 := D4.out
    have xf4_0 : w5.cell? ⟨w1.heap.size, 0, none⟩ = some (.int .u8 x0) := f4.at_ 0
    have xf4_1 : w5.cell? ⟨w1.heap.size, 1, none⟩ = some (.int .u32 x1) := f4.at_ 1
    have xf4_2 : w5.cell? ⟨w1.heap.size, 2, none⟩ = some (.int .u16 x2) := f4.at_ 2
    have xf4_3 : w5.cell? ⟨w1.heap.size, 3, none⟩ = some (.int .u32 x3) := f4.at_ 3
    have xf4_4 : w5.cell? ⟨w1.heap.size, 4, none⟩ = some (.int .u16 x4) := f4.at_ 4
    have xf4_5 : w5.cell? ⟨w1.heap.size, 5, none⟩ = some (.int .i64 x5) := f4.at_ 5
    have xf4_6 : w5.cell? ⟨w1.heap.size, 6, none⟩ = some (.int .u8 x6) := f4.at_ 6
    have xf4_7 : w5.cell? ⟨w1.heap.size, 7, none⟩ = some (.bool x7) := f4.at_ 7
    have xf4_8 : w5.cell? ⟨w1.heap.size, 8, none⟩ = some (.int .u8 xl) := f4.at_ 8
    have yf4_0 : w5.frozen? ⟨w1.heap.size, 0, none⟩ = false := f4.free 0
    have yf4_1 : w5.frozen? ⟨w1.heap.size, 1, none⟩ = false := f4.free 1
    have yf4_2 : w5.frozen? ⟨w1.heap.size, 2, none⟩ = false := f4.free 2
    have yf4_3 : w5.frozen? ⟨w1.heap.size, 3, none⟩ = false := f4.free 3
    have yf4_4 : w5.frozen? ⟨w1.heap.size, 4, none⟩ = false := f4.free 4
    have yf4_5 : w5.frozen? ⟨w1.heap.size, 5, none⟩ = false := f4.free 5
    have yf4_6 : w5.frozen? ⟨w1.heap.size, 6, none⟩ = false := f4.free 6
    have yf4_7 : w5.frozen? ⟨w1.heap.size, 7, none⟩ = false := f4.free 7
    have yf4_8 : w5.frozen? ⟨w1.heap.size, 8, none⟩ = false := f4.free 8
    have xd4_0 : w5.cell? ⟨w.heap.size, 0, none⟩ = some (.int .u32 a) := d4.at_ 0
    have xd4_1 : w5.cell? ⟨w.heap.size, 1, none⟩ = some (.int .u16 b) := d4.at_ 1
    have xd4_2 : w5.cell? ⟨w.heap.size, 2, none⟩ = some (.int .u32 c) := d4.at_ 2
    have xd4_3 : w5.cell? ⟨w.heap.size, 3, none⟩ = some (.int .u16 d) := d4.at_ 3
    clear f4 d4
    have fS := hide (fun (X : World) (hX : Cells X w.heap.size #[.int .u32 a, .int .u16 b, .int .u32 c, .int .u16 d] 28) => (show World.cell? X ⟨w.heap.size, 0, none⟩ = some (.int .u32 a) ∧ World.cell? X ⟨w.heap.size, 2, none⟩ = some (.int .u32 c) from ⟨hX.at_ 0, hX.at_ 2⟩))
    go_region_held3 (fun zW => World.cell? zW ⟨w.heap.size, 0, none⟩ = some (.int .u32 a) ∧ World.cell? zW ⟨w.heap.size, 2, none⟩ = some (.int .u32 c)) (((try dsimp only); with_reducible refine fS.out _ ?_; (repeat' (first | with_reducible exact D4.out | with_reducible refine Cells.drew ?_ | with_reducible refine Cells.other ?_ NCX.out _ _))))
      (fail)
    all_goals
      generalize hW6 : World.setCell _ _ _ = W6
      have f6 : Cells W6 w1.heap.size #[.int .u8 x0, .int .u32 a, .int .u16 x2, .int .u32 c, .int .u16 x4, .int .i64 x5, .int .u8 x6, .bool x7, .int .u8 xl] 33 := by rw [← hW6]; (first | exact ((F4.out.drew.set_ 1 (.int .u32 a)).set_ 3 (.int .u32 c)) | exact ((F4.out.drew.set_ 3 (.int .u32 c)).set_ 1 (.int .u32 a)))
      have d6 : Cells W6 w.heap.size #[.int .u32 a, .int .u16 b, .int .u32 c, .int .u16 d] 28 := by rw [← hW6]; (repeat' (first | with_reducible exact D4.out | with_reducible refine Cells.drew ?_ | with_reducible refine Cells.other ?_ NCX.out _ _))
      have g6 : Cells W6 w3.heap.size #[.int .u8 x0, .int .u32 a, .int .u16 yb, .int .u32 c, .int .u16 yd, .int .i64 x5, .int .u8 x6, .bool x7, .int .u8 xl] 33 := by rw [← hW6]; (repeat' (first | with_reducible exact G4.out | with_reducible refine Cells.drew ?_ | with_reducible refine Cells.other ?_ NYX.out _ _))
      have l6 : Below w.heap.size w W6 := by rw [← hW6]; (repeat' (first | with_reducible exact L4.out | with_reducible refine Below.setCell ?_ (by have := NL.out; dsimp only; omega) _ | with_reducible refine Below.drew ?_))
      clear hW6
      go_wp2_with fail
      go_meet
      exact ⟨f6, d6, g6, by first | exact l6 | exact l6.drew⟩
  case rest =>
    clear F4 D4 G4 L4
    obtain ⟨f4, d4, g4, l4⟩ := hcut
    have F4 := hide f4; have D4 := hide d4; have G4 := hide g4; have L4 := hide l4
    clear f4 d4 g4 l4
    go_upto_block 0 with fail
    generalize wc = w5 at *
    go_cut [] (fun wx => Cells wx w1.heap.size #[.int .u8 x0, .int .u32 a, .int .u16 yb, .int .u32 c, .int .u16 yd, .int .i64 x5, .int .u8 x6, .bool x7, .int .u8 xl] 33 ∧ Cells wx w.heap.size #[.int .u32 a, .int .u16 b, .int .u32 c, .int .u16 d] 28 ∧ Cells wx w3.heap.size #[.int .u8 x0, .int .u32 a, .int .u16 yb, .int .u32 c, .int .u16 yd, .int .i64 x5, .int .u8 x6, .bool x7, .int .u8 xl] 33 ∧ Below w.heap.size w wx)
    case first =>
      rcases HSW.out with ⟨h5, rfl, rfl⟩ | ⟨h5, h0, rfl, rfl⟩ | ⟨h5, h0, h7, rfl, rfl⟩ | ⟨h5, h0, h7, rfl, rfl⟩
      · have s5 : (x5 == 3) = true := by simpa using h5
        have f4 := F4.out
        have xf4_0 : w5.cell? ⟨w1.heap.size, 0, none⟩ = some (.int .u8 x0) := f4.at_ 0
        have xf4_1 : w5.cell? ⟨w1.heap.size, 1, none⟩ = some (.int .u32 a) := f4.at_ 1
        have xf4_2 : w5.cell? ⟨w1.heap.size, 2, none⟩ = some (.int .u16 yb) := f4.at_ 2
        have xf4_3 : w5.cell? ⟨w1.heap.size, 3, none⟩ = some (.int .u32 c) := f4.at_ 3
        have xf4_4 : w5.cell? ⟨w1.heap.size, 4, none⟩ = some (.int .u16 yd) := f4.at_ 4
        have xf4_5 : w5.cell? ⟨w1.heap.size, 5, none⟩ = some (.int .i64 x5) := f4.at_ 5
        have xf4_6 : w5.cell? ⟨w1.heap.size, 6, none⟩ = some (.int .u8 x6) := f4.at_ 6
        have xf4_7 : w5.cell? ⟨w1.heap.size, 7, none⟩ = some (.bool x7) := f4.at_ 7
        have xf4_8 : w5.cell? ⟨w1.heap.size, 8, none⟩ = some (.int .u8 xl) := f4.at_ 8
        clear f4 h5 HSW
        go_wp2_with fail
        go_meet
        exact ⟨F4.out, D4.out, G4.out, L4.out⟩
      · have s5 : (x5 == 3) = false := by simpa using h5
        have s0 : (x0 != 1) = true := by simpa using h0
        have s1 : (x0 == 1) = false := by simpa using h0
        clear h5 h0 HSW
        have f4 := F4.out; have d4 := D4.out
        have xf4_0 : w5.cell? ⟨w1.heap.size, 0, none⟩ = some (.int .u8 x0) := f4.at_ 0
        have xf4_1 : w5.cell? ⟨w1.heap.size, 1, none⟩ = some (.int .u32 a) := f4.at_ 1
        have xf4_2 : w5.cell? ⟨w1.heap.size, 2, none⟩ = some (.int .u16 x2) := f4.at_ 2
        have xf4_3 : w5.cell? ⟨w1.heap.size, 3, none⟩ = some (.int .u32 c) := f4.at_ 3
        have xf4_4 : w5.cell? ⟨w1.heap.size, 4, none⟩ = some (.int .u16 x4) := f4.at_ 4
        have xf4_5 : w5.cell? ⟨w1.heap.size, 5, none⟩ = some (.int .i64 x5) := f4.at_ 5
        have xf4_6 : w5.cell? ⟨w1.heap.size, 6, none⟩ = some (.int .u8 x6) := f4.at_ 6
        have xf4_7 : w5.cell? ⟨w1.heap.size, 7, none⟩ = some (.bool x7) := f4.at_ 7
        have xf4_8 : w5.cell? ⟨w1.heap.size, 8, none⟩ = some (.int .u8 xl) := f4.at_ 8
        have yf4_0 : w5.frozen? ⟨w1.heap.size, 0, none⟩ = false := f4.free 0
        have yf4_1 : w5.frozen? ⟨w1.heap.size, 1, none⟩ = false := f4.free 1
        have yf4_2 : w5.frozen? ⟨w1.heap.size, 2, none⟩ = false := f4.free 2
        have yf4_3 : w5.frozen? ⟨w1.heap.size, 3, none⟩ = false := f4.free 3
        have yf4_4 : w5.frozen? ⟨w1.heap.size, 4, none⟩ = false := f4.free 4
        have yf4_5 : w5.frozen? ⟨w1.heap.size, 5, none⟩ = false := f4.free 5
        have yf4_6 : w5.frozen? ⟨w1.heap.size, 6, none⟩ = false := f4.free 6
        have yf4_7 : w5.frozen? ⟨w1.heap.size, 7, none⟩ = false := f4.free 7
        have yf4_8 : w5.frozen? ⟨w1.heap.size, 8, none⟩ = false := f4.free 8
        have xd4_0 : w5.cell? ⟨w.heap.size, 0, none⟩ = some (.int .u32 a) := d4.at_ 0
        have xd4_1 : w5.cell? ⟨w.heap.size, 1, none⟩ = some (.int .u16 yb) := d4.at_ 1
        have xd4_2 : w5.cell? ⟨w.heap.size, 2, none⟩ = some (.int .u32 c) := d4.at_ 2
        have xd4_3 : w5.cell? ⟨w.heap.size, 3, none⟩ = some (.int .u16 yd) := d4.at_ 3
        clear f4 d4
        go_upto_region 15 with fail
        have fS := hide (fun (X : World) (hX : Cells X w.heap.size #[.int .u32 a, .int .u16 yb, .int .u32 c, .int .u16 yd] 28) => (show World.cell? X ⟨w.heap.size, 1, none⟩ = some (.int .u16 yb) ∧ World.cell? X ⟨w.heap.size, 3, none⟩ = some (.int .u16 yd) from ⟨hX.at_ 1, hX.at_ 3⟩))
        go_region_held3 (fun zW => World.cell? zW ⟨w.heap.size, 1, none⟩ = some (.int .u16 yb) ∧ World.cell? zW ⟨w.heap.size, 3, none⟩ = some (.int .u16 yd)) (((try dsimp only); with_reducible refine fS.out _ ?_; (repeat' (first | with_reducible exact D4.out | with_reducible refine Cells.drew ?_ | with_reducible refine Cells.other ?_ NCX.out _ _))))
          (fail)
        all_goals
          generalize hW6 : World.setCell _ _ _ = W6
          have f6 : Cells W6 w1.heap.size #[.int .u8 x0, .int .u32 a, .int .u16 yb, .int .u32 c, .int .u16 yd, .int .i64 x5, .int .u8 x6, .bool x7, .int .u8 xl] 33 := by rw [← hW6]; (first | exact ((F4.out.drew.set_ 2 (.int .u16 yb)).set_ 4 (.int .u16 yd)) | exact ((F4.out.drew.set_ 4 (.int .u16 yd)).set_ 2 (.int .u16 yb)))
          have d6 : Cells W6 w.heap.size #[.int .u32 a, .int .u16 yb, .int .u32 c, .int .u16 yd] 28 := by rw [← hW6]; (repeat' (first | with_reducible exact D4.out | with_reducible refine Cells.drew ?_ | with_reducible refine Cells.other ?_ NCX.out _ _))
          have g6 : Cells W6 w3.heap.size #[.int .u8 x0, .int .u32 a, .int .u16 yb, .int .u32 c, .int .u16 yd, .int .i64 x5, .int .u8 x6, .bool x7, .int .u8 xl] 33 := by rw [← hW6]; (repeat' (first | with_reducible exact G4.out | with_reducible refine Cells.drew ?_ | with_reducible refine Cells.other ?_ NYX.out _ _))
          have l6 : Below w.heap.size w W6 := by rw [← hW6]; (repeat' (first | with_reducible exact L4.out | with_reducible refine Below.setCell ?_ (by have := NL.out; dsimp only; omega) _ | with_reducible refine Below.drew ?_))
          clear hW6
          go_wp2_with fail
          go_meet
          exact ⟨f6, d6, g6, by first | exact l6 | exact l6.drew⟩
      · have s5 : (x5 == 3) = false := by simpa using h5
        subst h0
        subst h7
        clear h5 HSW
        have f4 := F4.out; have d4 := D4.out
        have xf4_0 : w5.cell? ⟨w1.heap.size, 0, none⟩ = some (.int .u8 1) := f4.at_ 0
        have xf4_1 : w5.cell? ⟨w1.heap.size, 1, none⟩ = some (.int .u32 a) := f4.at_ 1
        have xf4_2 : w5.cell? ⟨w1.heap.size, 2, none⟩ = some (.int .u16 x2) := f4.at_ 2
        have xf4_3 : w5.cell? ⟨w1.heap.size, 3, none⟩ = some (.int .u32 c) := f4.at_ 3
        have xf4_4 : w5.cell? ⟨w1.heap.size, 4, none⟩ = some (.int .u16 yd) := f4.at_ 4
        have xf4_5 : w5.cell? ⟨w1.heap.size, 5, none⟩ = some (.int .i64 x5) := f4.at_ 5
        have xf4_6 : w5.cell? ⟨w1.heap.size, 6, none⟩ = some (.int .u8 x6) := f4.at_ 6
        have xf4_7 : w5.cell? ⟨w1.heap.size, 7, none⟩ = some (.bool true) := f4.at_ 7
        have xf4_8 : w5.cell? ⟨w1.heap.size, 8, none⟩ = some (.int .u8 xl) := f4.at_ 8
        have yf4_0 : w5.frozen? ⟨w1.heap.size, 0, none⟩ = false := f4.free 0
        have yf4_1 : w5.frozen? ⟨w1.heap.size, 1, none⟩ = false := f4.free 1
        have yf4_2 : w5.frozen? ⟨w1.heap.size, 2, none⟩ = false := f4.free 2
        have yf4_3 : w5.frozen? ⟨w1.heap.size, 3, none⟩ = false := f4.free 3
        have yf4_4 : w5.frozen? ⟨w1.heap.size, 4, none⟩ = false := f4.free 4
        have yf4_5 : w5.frozen? ⟨w1.heap.size, 5, none⟩ = false := f4.free 5
        have yf4_6 : w5.frozen? ⟨w1.heap.size, 6, none⟩ = false := f4.free 6
        have yf4_7 : w5.frozen? ⟨w1.heap.size, 7, none⟩ = false := f4.free 7
        have yf4_8 : w5.frozen? ⟨w1.heap.size, 8, none⟩ = false := f4.free 8
        have xd4_0 : w5.cell? ⟨w.heap.size, 0, none⟩ = some (.int .u32 a) := d4.at_ 0
        have xd4_1 : w5.cell? ⟨w.heap.size, 1, none⟩ = some (.int .u16 yb) := d4.at_ 1
        have xd4_2 : w5.cell? ⟨w.heap.size, 2, none⟩ = some (.int .u32 c) := d4.at_ 2
        have xd4_3 : w5.cell? ⟨w.heap.size, 3, none⟩ = some (.int .u16 d) := d4.at_ 3
        clear f4 d4
        have f6 : Cells (w5.setCell ⟨w1.heap.size, 2, none⟩ (.int .u16 yb)) w1.heap.size #[.int .u8 1, .int .u32 a, .int .u16 yb, .int .u32 c, .int .u16 yd, .int .i64 x5, .int .u8 x6, .bool true, .int .u8 xl] 33 := F4.out.set_ 2 (.int .u16 yb)
        have d6 := D4.out.other NCX.out 2 (.int .u16 yb)
        have g6 := G4.out.other NYX.out 2 (.int .u16 yb)
        have l6 : Below w.heap.size w (w5.setCell ⟨w1.heap.size, 2, none⟩ (.int .u16 yb)) := Below.setCell L4.out (by have := NL.out; dsimp only; omega) _
        have F6 := hide f6; have D6 := hide d6; have G6 := hide g6; have L6 := hide l6
        clear f6 d6 g6 l6
        go_wp2_with fail
        go_meet
        exact ⟨F6.out, D6.out, G6.out, L6.out⟩
      · have s5 : (x5 == 3) = false := by simpa using h5
        subst h0
        subst h7
        clear h5 HSW
        have f4 := F4.out; have d4 := D4.out
        have xf4_0 : w5.cell? ⟨w1.heap.size, 0, none⟩ = some (.int .u8 1) := f4.at_ 0
        have xf4_1 : w5.cell? ⟨w1.heap.size, 1, none⟩ = some (.int .u32 a) := f4.at_ 1
        have xf4_2 : w5.cell? ⟨w1.heap.size, 2, none⟩ = some (.int .u16 yb) := f4.at_ 2
        have xf4_3 : w5.cell? ⟨w1.heap.size, 3, none⟩ = some (.int .u32 c) := f4.at_ 3
        have xf4_4 : w5.cell? ⟨w1.heap.size, 4, none⟩ = some (.int .u16 x4) := f4.at_ 4
        have xf4_5 : w5.cell? ⟨w1.heap.size, 5, none⟩ = some (.int .i64 x5) := f4.at_ 5
        have xf4_6 : w5.cell? ⟨w1.heap.size, 6, none⟩ = some (.int .u8 x6) := f4.at_ 6
        have xf4_7 : w5.cell? ⟨w1.heap.size, 7, none⟩ = some (.bool false) := f4.at_ 7
        have xf4_8 : w5.cell? ⟨w1.heap.size, 8, none⟩ = some (.int .u8 xl) := f4.at_ 8
        have yf4_0 : w5.frozen? ⟨w1.heap.size, 0, none⟩ = false := f4.free 0
        have yf4_1 : w5.frozen? ⟨w1.heap.size, 1, none⟩ = false := f4.free 1
        have yf4_2 : w5.frozen? ⟨w1.heap.size, 2, none⟩ = false := f4.free 2
        have yf4_3 : w5.frozen? ⟨w1.heap.size, 3, none⟩ = false := f4.free 3
        have yf4_4 : w5.frozen? ⟨w1.heap.size, 4, none⟩ = false := f4.free 4
        have yf4_5 : w5.frozen? ⟨w1.heap.size, 5, none⟩ = false := f4.free 5
        have yf4_6 : w5.frozen? ⟨w1.heap.size, 6, none⟩ = false := f4.free 6
        have yf4_7 : w5.frozen? ⟨w1.heap.size, 7, none⟩ = false := f4.free 7
        have yf4_8 : w5.frozen? ⟨w1.heap.size, 8, none⟩ = false := f4.free 8
        have xd4_0 : w5.cell? ⟨w.heap.size, 0, none⟩ = some (.int .u32 a) := d4.at_ 0
        have xd4_1 : w5.cell? ⟨w.heap.size, 1, none⟩ = some (.int .u16 b) := d4.at_ 1
        have xd4_2 : w5.cell? ⟨w.heap.size, 2, none⟩ = some (.int .u32 c) := d4.at_ 2
        have xd4_3 : w5.cell? ⟨w.heap.size, 3, none⟩ = some (.int .u16 yd) := d4.at_ 3
        clear f4 d4
        have f6 : Cells (w5.setCell ⟨w1.heap.size, 4, none⟩ (.int .u16 yd)) w1.heap.size #[.int .u8 1, .int .u32 a, .int .u16 yb, .int .u32 c, .int .u16 yd, .int .i64 x5, .int .u8 x6, .bool false, .int .u8 xl] 33 := F4.out.set_ 4 (.int .u16 yd)
        have d6 := D4.out.other NCX.out 4 (.int .u16 yd)
        have g6 := G4.out.other NYX.out 4 (.int .u16 yd)
        have l6 : Below w.heap.size w (w5.setCell ⟨w1.heap.size, 4, none⟩ (.int .u16 yd)) := Below.setCell L4.out (by have := NL.out; dsimp only; omega) _
        have F6 := hide f6; have D6 := hide d6; have G6 := hide g6; have L6 := hide l6
        clear f6 d6 g6 l6
        go_wp2_with fail
        go_meet
        exact ⟨F6.out, D6.out, G6.out, L6.out⟩
    case rest =>
      clear F4 D4 G4 L4 HSW
      obtain ⟨f4, d4, g4, l4⟩ := hcut
      obtain ⟨capA, WA, hcvA, hBA, hbA⟩ := conv_string wc m
      obtain ⟨capB, WB, hcvB, hBB, hbB⟩ := conv_string WA t
      have f5 := Cells.up f4 hbA hbB
      have g5 := Cells.up g4 hbA hbB
      have lB := bstep (bstep l4 hbA) hbB
      have lA : Below w.heap.size w WA := bstep l4 hbA
      have NA := hide (show w.heap.size ≤ wc.heap.size from l4.size)
      have NB := hide (show w.heap.size ≤ WA.heap.size from lA.size)
      replace hBA := hBA.below hbB
      have em := EM.out; have zm := ZM.out
      rw [zm] at hcvA
      have F5 := hide f5; have G5 := hide g5; have LB := hide lB; have BA := hide hBA; have BB := hide hBB
      clear f5 g5 lB hBA hBB f4 d4 g4 l4 lA hbA hbB zm
      have q5 : (0 : Int) ≤ (t.size : Int) := by omega
      go_upto_region 19 with fail
      clear em hcvA hcvB
      have hb := HB.out; have e0 := E0.out
      have b5 := LB.out
      refine wp_region_held_drew (S := fun _ => True) (by kernel_rfl) trivial (fun _ => ?_)
      refine wpAnyH_take (i := 0) (v := ?v0_1) rfl (by kernel_rfl) (by kernel_rfl) (by kernel_rfl) (fun _ _ _ h => h) (Or.inl (And.intro (by kernel_rfl) ?q0_1)) trivial ?r0_1; (case q0_1 => (intro w _; (try dsimp only); (try go_simp); (try with_reducible rfl)))
      try simp only [Act.put, List.setIfInBounds_toArray, List.set_cons_zero, List.set_cons_succ, List.getElem_toArray, List.getElem_cons_succ, List.getElem_cons_zero]
      refine wpAnyH_take (i := 1) (v := ?v1_2) rfl (by kernel_rfl) (by kernel_rfl) (by kernel_rfl) (fun _ _ _ h => h) (Or.inl (And.intro (by kernel_rfl) ?q1_2)) trivial ?r1_2; (case q1_2 => (intro w _; (try dsimp only); (try go_simp); (try with_reducible rfl)))
      try simp only [Act.put, List.setIfInBounds_toArray, List.set_cons_zero, List.set_cons_succ, List.getElem_toArray, List.getElem_cons_succ, List.getElem_cons_zero]
      refine wpAnyH_take (i := 2) (v := ?v2_3) rfl (by kernel_rfl) (by kernel_rfl) (by kernel_rfl) (fun _ _ _ h => h) (Or.inl (And.intro (by kernel_rfl) ?q2_3)) trivial ?r2_3; (case q2_3 => (intro w _; (try dsimp only); (try go_simp); (try with_reducible rfl)))
      try simp only [Act.put, List.setIfInBounds_toArray, List.set_cons_zero, List.set_cons_succ, List.getElem_toArray, List.getElem_cons_succ, List.getElem_cons_zero]
      refine wpAnyH_take (i := 3) (v := ?v3_4) rfl (by kernel_rfl) (by kernel_rfl) (by kernel_rfl) (fun _ _ _ h => h) (Or.inl (And.intro (by kernel_rfl) ?q3_4)) trivial ?r3_4; (case q3_4 => (intro w _; (try dsimp only); (try go_simp); (try with_reducible rfl)))
      try simp only [Act.put, List.setIfInBounds_toArray, List.set_cons_zero, List.set_cons_succ, List.getElem_toArray, List.getElem_cons_succ, List.getElem_cons_zero]
      refine wpAnyH_take (i := 4) (v := ?v4_5) rfl (by kernel_rfl) (by kernel_rfl) (by kernel_rfl) (fun _ _ _ h => h) (Or.inl (And.intro (by kernel_rfl) ?q4_5)) trivial ?r4_5; (case q4_5 => (intro w _; (try dsimp only); (try go_simp); (try with_reducible rfl)))
      try simp only [Act.put, List.setIfInBounds_toArray, List.set_cons_zero, List.set_cons_succ, List.getElem_toArray, List.getElem_cons_succ, List.getElem_cons_zero]
      refine wpAnyH_take (i := 5) (v := ?v5_6) rfl (by kernel_rfl) (by kernel_rfl) (by kernel_rfl) (fun _ _ _ h => h) (Or.inl (And.intro (by kernel_rfl) ?q5_6)) trivial ?r5_6; (case q5_6 => (intro w _; (try dsimp only); (try go_simp); (try with_reducible rfl)))
      try simp only [Act.put, List.setIfInBounds_toArray, List.set_cons_zero, List.set_cons_succ, List.getElem_toArray, List.getElem_cons_succ, List.getElem_cons_zero]
      refine wpAnyH_ready (rs := [6]) (by kernel_rfl) (by simp) ?_
      refine AllReadyH.cons rfl (fun K hK => ?_) AllReadyH.nil
      rw [if_pos (by kernel_rfl)]
      (try simp only [List.getElem_toArray, List.getElem_cons_succ, List.getElem_cons_zero])
      go_simp
      (with_reducible refine (P3.out _ (KK.out.below (Below.drew b5))).mono ?_)
      rintro e wJ6 ⟨rfl, bJ6⟩
      have rJ6 := bJ6
      replace bJ6 : Below w.heap.size w wJ6 := by (refine bstep ?_ bJ6); (repeat' (first | with_reducible exact b5 | with_reducible exact Below.refl _ _ | with_reducible refine Below.setCell ?_ (by first | exact Nat.le_refl _ | (dsimp only; omega)) _ | with_reducible refine bstep ?_ (fresh_below _ _) | with_reducible refine Below.drew ?_))
      try go_wp2_with fail
      refine hK.out _ _ trivial (fun _ => ?_)
      clear hK K
      try simp only [Act.put, List.setIfInBounds_toArray, List.set_cons_zero, List.set_cons_succ, List.getElem_toArray, List.getElem_cons_succ, List.getElem_cons_zero]
      refine wpAnyH_take (i := 7) (v := ?v7_8) rfl (by kernel_rfl) (by kernel_rfl) (by kernel_rfl) (fun _ _ _ h => h) (Or.inl (And.intro (by kernel_rfl) ?q7_8)) trivial ?r7_8; (case q7_8 => (intro w _; (try dsimp only); (try go_simp); (try with_reducible rfl)))
      try simp only [Act.put, List.setIfInBounds_toArray, List.set_cons_zero, List.set_cons_succ, List.getElem_toArray, List.getElem_cons_succ, List.getElem_cons_zero]
      refine wpAnyH_take (i := 8) (v := ?v8_9) rfl (by kernel_rfl) (by kernel_rfl) (by kernel_rfl) (fun _ _ _ h => h) (Or.inl (And.intro (by kernel_rfl) ?q8_9)) trivial ?r8_9; (case q8_9 => (intro w _; (try dsimp only); (try go_simp); (try with_reducible rfl)))
      try simp only [Act.put, List.setIfInBounds_toArray, List.set_cons_zero, List.set_cons_succ, List.getElem_toArray, List.getElem_cons_succ, List.getElem_cons_zero]
      refine wpAnyH_done (by kernel_rfl) ?_ _
      clear hb e0 b5
      have f6 := Cells.below rJ6 F5.out
      have g6 := Cells.below rJ6 G5.out
      have bA := Bytes.below (w := WB.drew) BA.out rJ6
      have bB := Bytes.below (w := WB.drew) BB.out rJ6
      have FX := hide f6; have GX := hide g6; have BX := hide bA; have BY := hide bB; have LX := hide bJ6
      clear f6 g6 bA bB rJ6 bJ6 F5 G5 BA BB LB
      have HOK2 := HOK.out
      have hown : 0 ≤ y % 16 * 4 ∧ y % 16 * 4 ≤ 60 := by have := HB.out; omega
      have HOWN := hide hown
      clear hown HOK
      have HO2 := hide HOK2
      clear HOK2
      have ebw : IntKind.i64.wrap (IntKind.i64.wrap (bits .and .u8 y 15) * 4) = y % 16 * 4 := by
        have hb := HB.out
        rw [u8_and15 y hb.1 (by omega), IntWalk.i64_in (y % 16) (by omega), IntWalk.i64_in (y % 16 * 4) (by omega)]
      rw [ebw]
      clear ebw
      generalize y % 16 * 4 = own at *
      go_wp2_with fail
      have SZ := hide (show t.size ≤ 2500 by omega)
      go_loopg [15] t.size (fun k' p wr => ∃ j : Nat, j + k' = t.size ∧ p = .int .i64 (j : Int) ∧ Bytes wr wc.heap.size (L m) ∧ Bytes wr WA.heap.size (L t) ∧ Cells wr w1.heap.size #[.int .u8 x0, .int .u32 a, .int .u16 yb, .int .u32 c, .int .u16 yd, .int .i64 x5, .int .u8 x6, .bool x7, .int .u8 xl] 33 ∧ Cells wr w3.heap.size #[.int .u8 x0, .int .u32 a, .int .u16 yb, .int .u32 c, .int .u16 yd, .int .i64 x5, .int .u8 x6, .bool x7, .int .u8 xl] 33 ∧ Below w.heap.size w wr)
      case atStart => exact ⟨0, by omega, rfl, BX.out, BY.out, FX.out, GX.out, LX.out⟩
      case round =>
        obtain ⟨j, hj, rfl, hA, hB, hF, hG, hL⟩ := hrel
        by_cases hlt : j < t.size
        · change Code.wp Tryd.prog seenBody (Exit.then _ _) _ _
          refine seen_round (fun W => Bytes W wc.heap.size (L m) ∧ Bytes W WA.heap.size (L t) ∧ Cells W w1.heap.size #[.int .u8 x0, .int .u32 a, .int .u16 yb, .int .u32 c, .int .u16 yd, .int .i64 x5, .int .u8 x6, .bool x7, .int .u8 xl] 33 ∧ Cells W w3.heap.size #[.int .u8 x0, .int .u32 a, .int .u16 yb, .int .u32 c, .int .u16 yd, .int .i64 x5, .int .u8 x6, .bool x7, .int .u8 xl] 33 ∧ Below w.heap.size w W) t.size capA capB wc.heap.size WA.heap.size w1.heap.size j own k x0 (at_ (L m) j) (at_ (L t) j) _ _ _ _ _ _ _ _ _ _ _ _ _ _ _ _ _ _ _ _ _ _ _ _ _ _ _ _ _ _ _ _ _ _ _ _ _ _ _ _ _ _ _ _ _ _ _ _ _ _ _ _ _ _ _ _ _ _ _ _ _ _ _ _ _ _ _ _ _ _ _ _ _ _ _ _ _ _ _ _ _ _ _ _ _ _ _ _ _ _ _ _ _ _ _ _ _ _ _ _ _ _ _ _ _ _ _ _ _ _ _ _ _ _ _ _ _ _ _ _ _ _ _ _ _ _ _ _ _ _ _ _ _ _ _ _ _ _ _ _ _ _ _ _ _ _ _ _ _ _ _ _ _ _ _ _ _ _ _ _ _ _ _ _ _ _ _ _ _ _ _ _ _ _ _ _ _ _ _ _ _ _ _ _ _ _ _ _ _ _ _ _ _ _ _ _ _ _ _ _ _ _ _ _ _ _ _ _ _ _ _ _ _ _ wr _ _ hlt (by omega) (by have := SZ.out; omega) HOWN.out HKB.out (hF.at_ 0) (hA.cell (by rw [L_length, ZM.out]; exact hlt)) (hB.cell (by rw [L_length]; exact hlt)) (HO2.out j hlt) ⟨hA, hB, hF, hG, hL⟩ (fun W n h => ⟨h.1.drewN n, h.2.1.drewN n, h.2.2.1, h.2.2.2.1, below_drewN h.2.2.2.2 n⟩) ?_
          intro v16 v17 v129 v130 v131 v132 v133 v134 v135 v136 v137 v138 v139 v140 v141 v142 v143 v144 v145 v146 v147 v148 v149 v150 v151 v152 v153 v154 v155 v156 v157 v158 v159 v160 v161 v162 v163 v164 v165 v166 v167 v168 v169 v170 v171 v172 v173 v174 v175 v176 v177 v178 v179 v180 v181 v182 v183 v184 v185 v186 v187 v188 v189 v190 v191 v192 v193 v194 v195 v196 v197 v198 v199 v200 v201 v202 v203 v204 v205 v206 v207 v208 v209 v210 v211 v212 v213 wx hS
          go_step
          go_roundg (gk - 1)
          case measure => omega
          case rel => exact ⟨j + 1, by omega, by push_cast; rfl, hS.1, hS.2.1, hS.2.2.1, hS.2.2.2.1, hS.2.2.2.2⟩
        · have hlt' : ¬ (j : Int) < (t.size : Int) := by omega
          have xhF_0 : wr.cell? ⟨w1.heap.size, 0, none⟩ = some (.int .u8 x0) := hF.at_ 0
          have xhF_1 : wr.cell? ⟨w1.heap.size, 1, none⟩ = some (.int .u32 a) := hF.at_ 1
          have xhF_2 : wr.cell? ⟨w1.heap.size, 2, none⟩ = some (.int .u16 yb) := hF.at_ 2
          have xhF_3 : wr.cell? ⟨w1.heap.size, 3, none⟩ = some (.int .u32 c) := hF.at_ 3
          have xhF_4 : wr.cell? ⟨w1.heap.size, 4, none⟩ = some (.int .u16 yd) := hF.at_ 4
          have xhF_5 : wr.cell? ⟨w1.heap.size, 5, none⟩ = some (.int .i64 x5) := hF.at_ 5
          have xhF_6 : wr.cell? ⟨w1.heap.size, 6, none⟩ = some (.int .u8 x6) := hF.at_ 6
          have xhF_7 : wr.cell? ⟨w1.heap.size, 7, none⟩ = some (.bool x7) := hF.at_ 7
          have xhF_8 : wr.cell? ⟨w1.heap.size, 8, none⟩ = some (.int .u8 xl) := hF.at_ 8
          have xhG_0 : wr.cell? ⟨w3.heap.size, 0, none⟩ = some (.int .u8 x0) := hG.at_ 0
          have xhG_1 : wr.cell? ⟨w3.heap.size, 1, none⟩ = some (.int .u32 a) := hG.at_ 1
          have xhG_2 : wr.cell? ⟨w3.heap.size, 2, none⟩ = some (.int .u16 yb) := hG.at_ 2
          have xhG_3 : wr.cell? ⟨w3.heap.size, 3, none⟩ = some (.int .u32 c) := hG.at_ 3
          have xhG_4 : wr.cell? ⟨w3.heap.size, 4, none⟩ = some (.int .u16 yd) := hG.at_ 4
          have xhG_5 : wr.cell? ⟨w3.heap.size, 5, none⟩ = some (.int .i64 x5) := hG.at_ 5
          have xhG_6 : wr.cell? ⟨w3.heap.size, 6, none⟩ = some (.int .u8 x6) := hG.at_ 6
          have xhG_7 : wr.cell? ⟨w3.heap.size, 7, none⟩ = some (.bool x7) := hG.at_ 7
          have xhG_8 : wr.cell? ⟨w3.heap.size, 8, none⟩ = some (.int .u8 xl) := hG.at_ 8
          have LL := hide hL
          clear hA hB hF hG hL hj hlt
          go_wp2_with fail
          (with_reducible refine (P5.out _ (TT.out.below LL.out)).mono ?_)
          rintro e w9 ⟨rfl, l9⟩
          replace l9 := bstep LL.out l9
          go_wp2_with fail
          go_ret
          exact ⟨rfl, l9⟩

theorem RewriteSeen_walk (s : ByteArray) (a b c d : Int) (w : World) (T0 : Tabs w) (hs : s.size ≤ 140737488351232) (ha : 0 ≤ a ∧ a ≤ 4294967295) (hb : 0 ≤ b ∧ b ≤ 65535) (hc : 0 ≤ c ∧ c ≤ 4294967295) (hd : 0 ≤ d ∧ d ≤ 65535) :
    Calls Tryd.prog 3 #[.string s, .agg #[.int .u32 a, .int .u16 b, .int .u32 c, .int .u16 d]] w (Ret (.bool true) w) := by
  have p5 := fun W T => turned W T
  by_cases hl : (2500 : Int) < (s.size : Int)
  · exact seen_long s a b c d w T0 hl p5
  have p0 := fun W K => taken_walk s 1 W K hs
  have p1 := fun W K => rw_Apply a b c d s W K ha hb hc hd hs
  by_cases ht : seenWhy s = 0 ∧ 1 < (seenOf s).l ∧ 20 ≤ s.size
  · rw [decide_eq_true ht] at p0
    obtain ⟨e1, e2, e3, e4, e5, e6⟩ := rw_seen ht.1 ht.2.1 ha hb hc hd _ rfl
    rw [e1] at p1
    generalize rwOut s a b c d = t at *
    have hts : t.size ≤ 140737488351232 := by omega
    have p2 := fun W K => tu_Of t W K hts
    have p3 := fun W K => sumAt_walk t W K hts (by omega)
    have hm : L (s.extract 0 t.size) = (L s).take t.size := by rw [L_extract, List.drop_zero, Nat.sub_zero]
    have zm : (s.extract 0 t.size).size = t.size := by rw [ByteArray.size_extract]; omega
    have hy := at_bd (L t) 0
    have ho : ipOwn (L t) = at_ (L t) 0 % 16 * 4 := rfl
    have hk : 0 ≤ ((sumAtL (seenOf t) (ipOwn (L t)).toNat : Nat) : Int) ∧ ((sumAtL (seenOf t) (ipOwn (L t)).toNat : Nat) : Int) ≤ 200 := by
      unfold sumAtL
      split
      · omega
      · split
        · omega
        · split <;> omega
    have hl2 : (seenOf s).l ≤ 255 := by
      obtain ⟨H, P, R, _, _, _, _, h8⟩ := taken_whole ht.1
      have := at_bd H 8
      omega
    rw [e2, e3] at p2
    unfold seenTo at p2 e3
    unfold Seen.cells at p0 p2
    generalize hx : seenOf s = x at *
    refine seen_yes s t _ a b c d x.t.p x.t.a x.t.b x.t.c x.t.d x.k x.f x.l (x.l - 1) (if x.k = 3 then x.t.b else if x.t.p ≠ 1 then b else if x.q = true then b else x.t.b) (if x.k = 3 then x.t.d else if x.t.p ≠ 1 then d else if x.q = true then x.t.d else d) (at_ (L t) 0) _ x.q w T0 hl (by omega) (by omega) (by omega) (by omega) (by omega) (by omega) hy (by rw [getElem_L t 0 (by omega)]; rfl) (by simp [IntKind.wrap, IntKind.bits, IntKind.signed]; omega) rfl zm hk ?_ ?_ p5 p0 p1 ?_ p3
    · by_cases h3 : x.k = 3
      · rw [if_pos h3, if_pos h3]; exact Or.inl ⟨h3, rfl, rfl⟩
      · rw [if_neg h3, if_neg h3]
        by_cases h1 : x.t.p ≠ 1
        · rw [if_pos h1, if_pos h1]; exact Or.inr (Or.inl ⟨h3, h1, rfl, rfl⟩)
        · rw [if_neg h1, if_neg h1]
          by_cases hq : x.q = true
          · rw [if_pos hq, if_pos hq]; exact Or.inr (Or.inr (Or.inl ⟨h3, by omega, hq, rfl, rfl⟩))
          · rw [if_neg hq, if_neg hq]; exact Or.inr (Or.inr (Or.inr ⟨h3, by omega, by simpa using hq, rfl, rfl⟩))
    · intro j hj
      rcases e6 j hj with h | h
      · left
        rw [hm, ← h]
        simp [at_, List.getD_eq_getElem?_getD, List.getElem?_take, hj]
      · right
        unfold okAt at h
        generalize sumAtL (seenOf t) (ipOwn (L t)).toNat = k at *
        generalize ipOwn (L t) = own at *
        omega
    · intro W K
      have h := p2 W K
      by_cases h3 : x.k = 3
      · simp only [if_pos h3] at h ⊢; exact h
      · simp only [if_neg h3] at h ⊢
        by_cases h1 : x.t.p ≠ 1
        · simp only [if_pos h1] at h ⊢; exact h
        · simp only [if_neg h1] at h ⊢
          by_cases hq : x.q = true
          · simp only [if_pos hq] at h ⊢; exact h
          · simp only [if_neg hq] at h ⊢; exact h
  · rw [decide_eq_false ht] at p0
    have hw : rwWhy s ≠ 0 := by
      intro h
      apply ht
      unfold rwWhy at h
      by_cases h0 : seenWhy s = 0
      · rw [if_neg (by omega)] at h
        by_cases h1 : (seenOf s).l < 2
        · rw [if_pos h1] at h; omega
        · refine ⟨h0, by omega, ?_⟩
          obtain ⟨_, _, _, z, z2, _⟩ := rw_seen h0 (by omega) ha hb hc hd _ rfl
          omega
      · rw [if_pos h0] at h; omega
    have ho : rwOut s a b c d = { data := #[] } := by unfold rwOut; rw [if_neg hw]
    rw [ho] at p1
    unfold Seen.cells at p0
    exact seen_no s a b c d _ _ _ _ _ _ _ _ _ _ { data := #[] } w T0 hl (by simpa using hw) (by simpa using hw) p5 p0 p1
end Go.Proofs.YtpidgmamollmgaaDoor
end

section
/- How an argument that is a struct or an array (of whatever depth) of one-cell leaves reads: each cell by its place. No program. -/
set_option linter.unusedVariables false
namespace Go.Proofs.YtpidgmamollmgaaDoor
open Go.RowKit Go.ChangeShapes Go.WideShapes

/-- the type of the leaf at cell i of a value of type t -/
def leafAt (P : Program) : Nat → TypeId → Nat → Option TypeId
  | 0, _, _ => none
  | n + 1, t, i =>
    match P.underlying t with
    | some (.struct fs) =>
      match fs.toList.find? (fun f => decide (f.offset ≤ i) && decide (i < f.offset + P.cellsOf f.type)) with
      | some f => leafAt P n f.type (i - f.offset)
      | none => none
    | some (.array m e) => if i / P.cellsOf e < m then leafAt P n e (i % P.cellsOf e) else none
    | some (.int _) | some .bool | some .string | some (.slice _) => if i = 0 then some t else none
    | _ => none

section
variable {H : Type} {enc : TypeId × Value → H} {P : Program} {w : World} {base : Nat} {spare : Nat → Bool} {held : Bool}

/-- the cell at i, and that it reads by itself; D: what the whole weighs -/
def LeafIs (enc : TypeId × Value → H) (P : Program) (w : World) (base : Nat) (spare : Nat → Bool) (held : Bool) (D : List Nat) (cs : List Value) (i : Nat) (u : TypeId) : Prop :=
  ∃ v x n, cs[i]? = some v ∧ DataW.trod enc P w base spare held n u [v] = some x ∧ ∀ m ∈ x.1.weights P u, m ∈ D

theorem slice_at {cs : List Value} {o c j : Nat} {v : Value} (h : ((cs.drop o).take c)[j]? = some v) : cs[o + j]? = some v := by
  have hj : j < c := by
    have := (List.getElem?_eq_some_iff.1 h).1
    simp at this; omega
  rw [List.getElem?_take_of_lt hj, List.getElem?_drop] at h
  exact h
theorem weights_all {e : TypeId} : ∀ {ds : List (DataW H)} {j : Nat} {d : DataW H}, ds[j]? = some d → ∀ m ∈ d.weights P e, m ∈ DataW.weightsAll P e ds
  | d0 :: ds, 0, d, hd, m, hm => by
    simp only [List.getElem?_cons_zero, Option.some.injEq] at hd
    subst hd
    simp only [DataW.weightsAll, List.mem_append]; exact .inl hm
  | d0 :: ds, j + 1, d, hd, m, hm => by
    simp only [DataW.weightsAll, List.mem_append]
    exact .inr (weights_all (j := j) (by simpa using hd) m hm)

theorem leafAt_of : ∀ {n : Nat} {t : TypeId} {i : Nat} {u : TypeId} (_ : leafAt P n t i = some u) {fuel : Nat} {cs : List Value} {x : DataW H × List MemPlace},
    DataW.trod enc P w base spare held fuel t cs = some x → LeafIs enc P w base spare held (x.1.weights P t) cs i u
  | 0, _, _, _, h, _, _, _, _ => by cases h
  | n + 1, t, i, u, h, fuel, cs, x, hx => by
    unfold leafAt at h
    split at h
    · rename_i fs hfs
      split at h
      · rename_i f hf
        obtain ⟨xs, m, _, hxx, hlen, hxl, hg⟩ := DataW.trod_struct hfs hx
        have hp := List.find?_some hf
        simp only [Bool.and_eq_true, decide_eq_true_eq] at hp
        obtain ⟨j, hj⟩ := List.mem_iff_getElem?.1 (List.mem_of_find?_eq_some hf)
        have hjl : j < fs.size := by have := (List.getElem?_eq_some_iff.1 hj).1; simpa using this
        have h1 := hg j f (by rw [← Array.getElem?_toList]; exact hj)
        rw [List.getElem?_eq_getElem (by omega)] at h1
        obtain ⟨v, y, k, hv, hy, hw⟩ := leafAt_of h h1
        refine ⟨v, y, k, ?_, hy, fun q hq => ?_⟩
        · have := slice_at hv
          rwa [show f.offset + (i - f.offset) = i from by omega] at this
        · have h2 := hw q hq
          rw [hxx]
          simp only [DataW.weights, hfs]
          exact DataW.weights_mem_each (ts := fs.toList.map (·.type)) (ds := xs.map (·.1)) (j := j) (by rw [List.getElem?_map, hj]; rfl) (by rw [List.getElem?_map, List.getElem?_eq_getElem (by omega)]; rfl) q h2
      · cases h
    · rename_i m e he
      split at h
      · rename_i hm
        obtain ⟨xs, k, _, hxx, hlen, hxl, hg⟩ := DataW.trod_array he hx
        have h1 := hg (i / P.cellsOf e) hm
        rw [List.getElem?_eq_getElem (by omega)] at h1
        obtain ⟨v, y, k, hv, hy, hw⟩ := leafAt_of h h1
        refine ⟨v, y, k, ?_, hy, fun q hq => ?_⟩
        · have := slice_at hv
          rwa [Nat.mul_comm, Nat.div_add_mod] at this
        · have h2 := hw q hq
          rw [hxx]
          simp only [DataW.weights, he]
          exact weights_all (ds := xs.map (·.1)) (j := i / P.cellsOf e) (by rw [List.getElem?_map, List.getElem?_eq_getElem (by omega)]; rfl) q h2
      · cases h
    · split at h
      · rename_i hi
        subst hi
        injection h with h
        subst h
        obtain ⟨k, hk, _⟩ := DataW.trod_int (by assumption) hx
        exact ⟨_, x, fuel, by rw [hk]; rfl, by rw [← hk]; exact hx, fun q hq => hq⟩
      · cases h
    · split at h
      · rename_i hi
        subst hi
        injection h with h
        subst h
        obtain ⟨k, hk, _⟩ := DataW.trod_bool (by assumption) hx
        exact ⟨_, x, fuel, by rw [hk]; rfl, by rw [← hk]; exact hx, fun q hq => hq⟩
      · cases h
    · split at h
      · rename_i hi
        subst hi
        injection h with h
        subst h
        obtain ⟨k, hk, _⟩ := DataW.trod_string (by assumption) hx
        exact ⟨_, x, fuel, by rw [hk]; rfl, by rw [← hk]; exact hx, fun q hq => hq⟩
      · cases h
    · split at h
      · rename_i hi
        subst hi
        injection h with h
        subst h
        rcases DataW.trod_slice (by assumption) hx with ⟨hk, _⟩ | ⟨_, _, _, _, _, _, _, hk, _⟩
        · exact ⟨_, x, fuel, by rw [hk]; rfl, by rw [← hk]; exact hx, fun q hq => hq⟩
        · exact ⟨_, x, fuel, by rw [hk]; rfl, by rw [← hk]; exact hx, fun q hq => hq⟩
      · cases h
    · cases h

variable {D : List Nat} {cs : List Value} {i : Nat} {u : TypeId}
theorem leaf_int {k : IntKind} (h : LeafIs enc P w base spare held D cs i u) (hu : P.underlying u = some (.int k)) : ∃ n, cs[i]? = some (.int k n) ∧ (Lit.int k n).wf = true := by
  obtain ⟨v, x, n, hv, hx, _⟩ := h
  obtain ⟨m, hm, _, hw⟩ := DataW.trod_int hu hx
  exact ⟨m, by rw [hv]; injection hm with hm; rw [hm], hw⟩
theorem leaf_bool (h : LeafIs enc P w base spare held D cs i u) (hu : P.underlying u = some .bool) : ∃ b, cs[i]? = some (.bool b) := by
  obtain ⟨v, x, n, hv, hx, _⟩ := h
  obtain ⟨m, hm, _⟩ := DataW.trod_bool hu hx
  exact ⟨m, by rw [hv]; injection hm with hm; rw [hm]⟩
theorem leaf_string (h : LeafIs enc P w base spare held D cs i u) (hu : P.underlying u = some .string) (hD : ∀ m ∈ D, m ≤ reachBytes) : ∃ s, cs[i]? = some (.string s) ∧ s.size ≤ 140737488351232 := by
  obtain ⟨v, x, n, hv, hx, hw⟩ := h
  obtain ⟨m, hm, hx', _⟩ := DataW.trod_string hu hx
  refine ⟨m, by rw [hv]; injection hm with hm; rw [hm], ?_⟩
  exact hD _ (hw m.data.toList.length (by rw [hx']; simp [DataW.weights]))
theorem okWide_array {r : Reach} {b n : Nat} {t e : TypeId} {v : Value} (ht : P.underlying t = some (.array n e)) (h : Value.okWide P w r b t v) : ∃ cs, v = .agg cs ∧ cs.size = P.cellsOf t := by
  simp only [Value.okWide, ht] at h
  obtain ⟨cs, h1, h2, _⟩ := h
  exact ⟨cs, h1, h2⟩
theorem sized_at {ts : List TypeId} {ds : List (DataW H)} (h : (DataW.weightsEach P ts ds).all (· ≤ reachBytes) = true) {j : Nat} {t : TypeId} {d : DataW H} (ht : ts[j]? = some t) (hd : ds[j]? = some d) : ∀ m ∈ d.weights P t, m ≤ reachBytes := fun m hm => by
  have := List.all_eq_true.1 h _ (DataW.weights_mem_each ht hd m hm)
  simpa using this
end

theorem arr_ext {cs ds : Array Value} (hz : cs.size = ds.size) (h : ∀ j, j < ds.size → cs.toList[j]? = ds[j]?) : cs = ds := by
  refine Array.ext hz (fun j h1 h2 => ?_)
  have := h j h2
  rw [Array.getElem?_toList, Array.getElem?_eq_getElem h1, Array.getElem?_eq_getElem h2] at this
  exact Option.some.inj this
end Go.Proofs.YtpidgmamollmgaaDoor
end
