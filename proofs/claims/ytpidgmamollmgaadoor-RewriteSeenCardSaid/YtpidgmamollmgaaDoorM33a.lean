/- Several texts of this claim, one behind the other. -/
import Derived.Test.YtpidgmamollmgaaDoorM25
import Derived.Test.YtpidgmamollmgaaDoorM32
import Derived.BigQuiet
import Derived.Deep.QuietTactic
import Derived.Deep.LoopGhost
import Derived.Deep.DeepCutAuto
import Derived.Deep.CutBlock

section
/- taken, sumAt walked. -/
set_option linter.unusedVariables false
set_option linter.unusedSimpArgs false
namespace Go.Proofs.YtpidgmamollmgaaDoor
open Go.RowKit
attribute [local go_sem] Oper.semAt_some

set_option maxRecDepth 100000 in
set_option maxHeartbeats 2000000 in
theorem tk_why (s : ByteArray) (n x0 x1 x2 x3 x4 x5 x6 x8 r : Int) (x7 : Bool) (w : World) (K0 : Kinds w) (q1 : (r == 0) = false)
    (c1 : ∀ W, Kinds W → Calls Tryd.prog 9 #[.string s] W (Ret (.tuple #[.agg #[.int .u8 x0, .int .u32 x1, .int .u16 x2, .int .u32 x3, .int .u16 x4, .int .i64 x5, .int .u8 x6, .bool x7, .int .u8 x8], .int .i64 r]) W)) :
    Calls Tryd.prog 7 #[.string s, .int .u8 n] w (Ret (.tuple #[.agg #[.int .u8 x0, .int .u32 x1, .int .u16 x2, .int .u32 x3, .int .u16 x4, .int .i64 x5, .int .u8 x6, .bool x7, .int .u8 x8], .bool false]) w) := by
  have C1 := hide c1; have KK := hide K0
  clear c1 K0
  go_enter Tryd.func7, Tryd.ntmps7
  have d0 := Cells.new w #[.int .u8 0, .int .u32 0, .int .u16 0, .int .u32 0, .int .u16 0, .int .i64 0, .int .u8 0, .bool false, .int .u8 0] 33
  go_wp2_with fail
  (with_reducible refine (C1.out _ (KK.out.below (fresh_below _ _))).mono ?_)
  rintro e w1 ⟨rfl, b1⟩
  have d1 := Cells.alloc (Cells.below b1 d0) (.cells #[.int .u8 x0, .int .u32 x1, .int .u16 x2, .int .u32 x3, .int .u16 x4, .int .i64 x5, .int .u8 x6, .bool x7, .int .u8 x8] 33)
  have e1 := Cells.new w1 #[.int .u8 x0, .int .u32 x1, .int .u16 x2, .int .u32 x3, .int .u16 x4, .int .i64 x5, .int .u8 x6, .bool x7, .int .u8 x8] 33
  replace b1 : Below w.heap.size w (w1.alloc (.cells #[.int .u8 x0, .int .u32 x1, .int .u16 x2, .int .u32 x3, .int .u16 x4, .int .i64 x5, .int .u8 x6, .bool x7, .int .u8 x8] 33)) := bstep (bstep (fresh_below _ _) b1) (fresh_below _ _)
  clear d0
  have xd1_0 : ((w1.alloc (.cells #[.int .u8 x0, .int .u32 x1, .int .u16 x2, .int .u32 x3, .int .u16 x4, .int .i64 x5, .int .u8 x6, .bool x7, .int .u8 x8] 33))).cell? ⟨w.heap.size, 0, none⟩ = some (.int .u8 0) := d1.at_ 0
  have xd1_1 : ((w1.alloc (.cells #[.int .u8 x0, .int .u32 x1, .int .u16 x2, .int .u32 x3, .int .u16 x4, .int .i64 x5, .int .u8 x6, .bool x7, .int .u8 x8] 33))).cell? ⟨w.heap.size, 1, none⟩ = some (.int .u32 0) := d1.at_ 1
  have xd1_2 : ((w1.alloc (.cells #[.int .u8 x0, .int .u32 x1, .int .u16 x2, .int .u32 x3, .int .u16 x4, .int .i64 x5, .int .u8 x6, .bool x7, .int .u8 x8] 33))).cell? ⟨w.heap.size, 2, none⟩ = some (.int .u16 0) := d1.at_ 2
  have xd1_3 : ((w1.alloc (.cells #[.int .u8 x0, .int .u32 x1, .int .u16 x2, .int .u32 x3, .int .u16 x4, .int .i64 x5, .int .u8 x6, .bool x7, .int .u8 x8] 33))).cell? ⟨w.heap.size, 3, none⟩ = some (.int .u32 0) := d1.at_ 3
  have xd1_4 : ((w1.alloc (.cells #[.int .u8 x0, .int .u32 x1, .int .u16 x2, .int .u32 x3, .int .u16 x4, .int .i64 x5, .int .u8 x6, .bool x7, .int .u8 x8] 33))).cell? ⟨w.heap.size, 4, none⟩ = some (.int .u16 0) := d1.at_ 4
  have xd1_5 : ((w1.alloc (.cells #[.int .u8 x0, .int .u32 x1, .int .u16 x2, .int .u32 x3, .int .u16 x4, .int .i64 x5, .int .u8 x6, .bool x7, .int .u8 x8] 33))).cell? ⟨w.heap.size, 5, none⟩ = some (.int .i64 0) := d1.at_ 5
  have xd1_6 : ((w1.alloc (.cells #[.int .u8 x0, .int .u32 x1, .int .u16 x2, .int .u32 x3, .int .u16 x4, .int .i64 x5, .int .u8 x6, .bool x7, .int .u8 x8] 33))).cell? ⟨w.heap.size, 6, none⟩ = some (.int .u8 0) := d1.at_ 6
  have xd1_7 : ((w1.alloc (.cells #[.int .u8 x0, .int .u32 x1, .int .u16 x2, .int .u32 x3, .int .u16 x4, .int .i64 x5, .int .u8 x6, .bool x7, .int .u8 x8] 33))).cell? ⟨w.heap.size, 7, none⟩ = some (.bool false) := d1.at_ 7
  have xd1_8 : ((w1.alloc (.cells #[.int .u8 x0, .int .u32 x1, .int .u16 x2, .int .u32 x3, .int .u16 x4, .int .i64 x5, .int .u8 x6, .bool x7, .int .u8 x8] 33))).cell? ⟨w.heap.size, 8, none⟩ = some (.int .u8 0) := d1.at_ 8
  have yd1_0 : ((w1.alloc (.cells #[.int .u8 x0, .int .u32 x1, .int .u16 x2, .int .u32 x3, .int .u16 x4, .int .i64 x5, .int .u8 x6, .bool x7, .int .u8 x8] 33))).frozen? ⟨w.heap.size, 0, none⟩ = false := d1.free 0
  have yd1_1 : ((w1.alloc (.cells #[.int .u8 x0, .int .u32 x1, .int .u16 x2, .int .u32 x3, .int .u16 x4, .int .i64 x5, .int .u8 x6, .bool x7, .int .u8 x8] 33))).frozen? ⟨w.heap.size, 1, none⟩ = false := d1.free 1
  have yd1_2 : ((w1.alloc (.cells #[.int .u8 x0, .int .u32 x1, .int .u16 x2, .int .u32 x3, .int .u16 x4, .int .i64 x5, .int .u8 x6, .bool x7, .int .u8 x8] 33))).frozen? ⟨w.heap.size, 2, none⟩ = false := d1.free 2
  have yd1_3 : ((w1.alloc (.cells #[.int .u8 x0, .int .u32 x1, .int .u16 x2, .int .u32 x3, .int .u16 x4, .int .i64 x5, .int .u8 x6, .bool x7, .int .u8 x8] 33))).frozen? ⟨w.heap.size, 3, none⟩ = false := d1.free 3
  have yd1_4 : ((w1.alloc (.cells #[.int .u8 x0, .int .u32 x1, .int .u16 x2, .int .u32 x3, .int .u16 x4, .int .i64 x5, .int .u8 x6, .bool x7, .int .u8 x8] 33))).frozen? ⟨w.heap.size, 4, none⟩ = false := d1.free 4
  have yd1_5 : ((w1.alloc (.cells #[.int .u8 x0, .int .u32 x1, .int .u16 x2, .int .u32 x3, .int .u16 x4, .int .i64 x5, .int .u8 x6, .bool x7, .int .u8 x8] 33))).frozen? ⟨w.heap.size, 5, none⟩ = false := d1.free 5
  have yd1_6 : ((w1.alloc (.cells #[.int .u8 x0, .int .u32 x1, .int .u16 x2, .int .u32 x3, .int .u16 x4, .int .i64 x5, .int .u8 x6, .bool x7, .int .u8 x8] 33))).frozen? ⟨w.heap.size, 6, none⟩ = false := d1.free 6
  have yd1_7 : ((w1.alloc (.cells #[.int .u8 x0, .int .u32 x1, .int .u16 x2, .int .u32 x3, .int .u16 x4, .int .i64 x5, .int .u8 x6, .bool x7, .int .u8 x8] 33))).frozen? ⟨w.heap.size, 7, none⟩ = false := d1.free 7
  have yd1_8 : ((w1.alloc (.cells #[.int .u8 x0, .int .u32 x1, .int .u16 x2, .int .u32 x3, .int .u16 x4, .int .i64 x5, .int .u8 x6, .bool x7, .int .u8 x8] 33))).frozen? ⟨w.heap.size, 8, none⟩ = false := d1.free 8
  have xe1_0 : ((w1.alloc (.cells #[.int .u8 x0, .int .u32 x1, .int .u16 x2, .int .u32 x3, .int .u16 x4, .int .i64 x5, .int .u8 x6, .bool x7, .int .u8 x8] 33))).cell? ⟨w1.heap.size, 0, none⟩ = some (.int .u8 x0) := e1.at_ 0
  have xe1_1 : ((w1.alloc (.cells #[.int .u8 x0, .int .u32 x1, .int .u16 x2, .int .u32 x3, .int .u16 x4, .int .i64 x5, .int .u8 x6, .bool x7, .int .u8 x8] 33))).cell? ⟨w1.heap.size, 1, none⟩ = some (.int .u32 x1) := e1.at_ 1
  have xe1_2 : ((w1.alloc (.cells #[.int .u8 x0, .int .u32 x1, .int .u16 x2, .int .u32 x3, .int .u16 x4, .int .i64 x5, .int .u8 x6, .bool x7, .int .u8 x8] 33))).cell? ⟨w1.heap.size, 2, none⟩ = some (.int .u16 x2) := e1.at_ 2
  have xe1_3 : ((w1.alloc (.cells #[.int .u8 x0, .int .u32 x1, .int .u16 x2, .int .u32 x3, .int .u16 x4, .int .i64 x5, .int .u8 x6, .bool x7, .int .u8 x8] 33))).cell? ⟨w1.heap.size, 3, none⟩ = some (.int .u32 x3) := e1.at_ 3
  have xe1_4 : ((w1.alloc (.cells #[.int .u8 x0, .int .u32 x1, .int .u16 x2, .int .u32 x3, .int .u16 x4, .int .i64 x5, .int .u8 x6, .bool x7, .int .u8 x8] 33))).cell? ⟨w1.heap.size, 4, none⟩ = some (.int .u16 x4) := e1.at_ 4
  have xe1_5 : ((w1.alloc (.cells #[.int .u8 x0, .int .u32 x1, .int .u16 x2, .int .u32 x3, .int .u16 x4, .int .i64 x5, .int .u8 x6, .bool x7, .int .u8 x8] 33))).cell? ⟨w1.heap.size, 5, none⟩ = some (.int .i64 x5) := e1.at_ 5
  have xe1_6 : ((w1.alloc (.cells #[.int .u8 x0, .int .u32 x1, .int .u16 x2, .int .u32 x3, .int .u16 x4, .int .i64 x5, .int .u8 x6, .bool x7, .int .u8 x8] 33))).cell? ⟨w1.heap.size, 6, none⟩ = some (.int .u8 x6) := e1.at_ 6
  have xe1_7 : ((w1.alloc (.cells #[.int .u8 x0, .int .u32 x1, .int .u16 x2, .int .u32 x3, .int .u16 x4, .int .i64 x5, .int .u8 x6, .bool x7, .int .u8 x8] 33))).cell? ⟨w1.heap.size, 7, none⟩ = some (.bool x7) := e1.at_ 7
  have xe1_8 : ((w1.alloc (.cells #[.int .u8 x0, .int .u32 x1, .int .u16 x2, .int .u32 x3, .int .u16 x4, .int .i64 x5, .int .u8 x6, .bool x7, .int .u8 x8] 33))).cell? ⟨w1.heap.size, 8, none⟩ = some (.int .u8 x8) := e1.at_ 8
  have D1 := hide d1; have B1 := hide b1
  clear d1 b1 e1
  go_wp2_with fail
  have d1 := D1.out; have b1 := B1.out
  generalize w1.alloc (.cells #[.int .u8 x0, .int .u32 x1, .int .u16 x2, .int .u32 x3, .int .u16 x4, .int .i64 x5, .int .u8 x6, .bool x7, .int .u8 x8] 33) = W at *
  have r5 := (Cells.put9 d1 (.int .u8 x0) (.int .u32 x1) (.int .u16 x2) (.int .u32 x3) (.int .u16 x4) (.int .i64 x5) (.int .u8 x6) (.bool x7) (.int .u8 x8))
  have b5 := (Below.put9 b1 (b := w.heap.size) (by first | exact Nat.le_refl _ | omega) (.int .u8 x0) (.int .u32 x1) (.int .u16 x2) (.int .u32 x3) (.int .u16 x4) (.int .i64 x5) (.int .u8 x6) (.bool x7) (.int .u8 x8))
  have HR5 := hide r5; have HB5 := hide b5
  clear r5 b5 d1
  generalize (((((((((W.setCell ⟨w.heap.size, 0, none⟩ (.int .u8 x0)).setCell ⟨w.heap.size, 1, none⟩ (.int .u32 x1)).setCell ⟨w.heap.size, 2, none⟩ (.int .u16 x2)).setCell ⟨w.heap.size, 3, none⟩ (.int .u32 x3)).setCell ⟨w.heap.size, 4, none⟩ (.int .u16 x4)).setCell ⟨w.heap.size, 5, none⟩ (.int .i64 x5)).setCell ⟨w.heap.size, 6, none⟩ (.int .u8 x6)).setCell ⟨w.heap.size, 7, none⟩ (.bool x7)).setCell ⟨w.heap.size, 8, none⟩ (.int .u8 x8)) = W5 at *
  have r5 := HR5.out; have b5 := HB5.out
  clear HR5 HB5
  have xr5_0 : W5.cell? ⟨w.heap.size, 0, none⟩ = some (.int .u8 x0) := r5.at_ 0
  have xr5_1 : W5.cell? ⟨w.heap.size, 1, none⟩ = some (.int .u32 x1) := r5.at_ 1
  have xr5_2 : W5.cell? ⟨w.heap.size, 2, none⟩ = some (.int .u16 x2) := r5.at_ 2
  have xr5_3 : W5.cell? ⟨w.heap.size, 3, none⟩ = some (.int .u32 x3) := r5.at_ 3
  have xr5_4 : W5.cell? ⟨w.heap.size, 4, none⟩ = some (.int .u16 x4) := r5.at_ 4
  have xr5_5 : W5.cell? ⟨w.heap.size, 5, none⟩ = some (.int .i64 x5) := r5.at_ 5
  have xr5_6 : W5.cell? ⟨w.heap.size, 6, none⟩ = some (.int .u8 x6) := r5.at_ 6
  have xr5_7 : W5.cell? ⟨w.heap.size, 7, none⟩ = some (.bool x7) := r5.at_ 7
  have xr5_8 : W5.cell? ⟨w.heap.size, 8, none⟩ = some (.int .u8 x8) := r5.at_ 8
  (try simp only [Exit.inBlock, Exit.then]); refine bodyPost_ret (by simp [results, Tryd.results7, go_sem, *]; try rfl) rfl ?_
  first | exact ⟨rfl, b5⟩ | exact ⟨by rw [decide_eq_false (by omega)], b5⟩

set_option maxRecDepth 100000 in
set_option maxHeartbeats 2000000 in
theorem tk_ttl (s : ByteArray) (n x0 x1 x2 x3 x4 x5 x6 x8 r : Int) (x7 : Bool) (w : World) (K0 : Kinds w) (q2 : ¬ n < x8)
    (c1 : ∀ W, Kinds W → Calls Tryd.prog 9 #[.string s] W (Ret (.tuple #[.agg #[.int .u8 x0, .int .u32 x1, .int .u16 x2, .int .u32 x3, .int .u16 x4, .int .i64 x5, .int .u8 x6, .bool x7, .int .u8 x8], .int .i64 0]) W)) :
    Calls Tryd.prog 7 #[.string s, .int .u8 n] w (Ret (.tuple #[.agg #[.int .u8 x0, .int .u32 x1, .int .u16 x2, .int .u32 x3, .int .u16 x4, .int .i64 x5, .int .u8 x6, .bool x7, .int .u8 x8], .bool false]) w) := by
  have C1 := hide c1; have KK := hide K0
  clear c1 K0
  go_enter Tryd.func7, Tryd.ntmps7
  have d0 := Cells.new w #[.int .u8 0, .int .u32 0, .int .u16 0, .int .u32 0, .int .u16 0, .int .i64 0, .int .u8 0, .bool false, .int .u8 0] 33
  go_wp2_with fail
  (with_reducible refine (C1.out _ (KK.out.below (fresh_below _ _))).mono ?_)
  rintro e w1 ⟨rfl, b1⟩
  have d1 := Cells.alloc (Cells.below b1 d0) (.cells #[.int .u8 x0, .int .u32 x1, .int .u16 x2, .int .u32 x3, .int .u16 x4, .int .i64 x5, .int .u8 x6, .bool x7, .int .u8 x8] 33)
  have e1 := Cells.new w1 #[.int .u8 x0, .int .u32 x1, .int .u16 x2, .int .u32 x3, .int .u16 x4, .int .i64 x5, .int .u8 x6, .bool x7, .int .u8 x8] 33
  replace b1 : Below w.heap.size w (w1.alloc (.cells #[.int .u8 x0, .int .u32 x1, .int .u16 x2, .int .u32 x3, .int .u16 x4, .int .i64 x5, .int .u8 x6, .bool x7, .int .u8 x8] 33)) := bstep (bstep (fresh_below _ _) b1) (fresh_below _ _)
  clear d0
  have xd1_0 : ((w1.alloc (.cells #[.int .u8 x0, .int .u32 x1, .int .u16 x2, .int .u32 x3, .int .u16 x4, .int .i64 x5, .int .u8 x6, .bool x7, .int .u8 x8] 33))).cell? ⟨w.heap.size, 0, none⟩ = some (.int .u8 0) := d1.at_ 0
  have xd1_1 : ((w1.alloc (.cells #[.int .u8 x0, .int .u32 x1, .int .u16 x2, .int .u32 x3, .int .u16 x4, .int .i64 x5, .int .u8 x6, .bool x7, .int .u8 x8] 33))).cell? ⟨w.heap.size, 1, none⟩ = some (.int .u32 0) := d1.at_ 1
  have xd1_2 : ((w1.alloc (.cells #[.int .u8 x0, .int .u32 x1, .int .u16 x2, .int .u32 x3, .int .u16 x4, .int .i64 x5, .int .u8 x6, .bool x7, .int .u8 x8] 33))).cell? ⟨w.heap.size, 2, none⟩ = some (.int .u16 0) := d1.at_ 2
  have xd1_3 : ((w1.alloc (.cells #[.int .u8 x0, .int .u32 x1, .int .u16 x2, .int .u32 x3, .int .u16 x4, .int .i64 x5, .int .u8 x6, .bool x7, .int .u8 x8] 33))).cell? ⟨w.heap.size, 3, none⟩ = some (.int .u32 0) := d1.at_ 3
  have xd1_4 : ((w1.alloc (.cells #[.int .u8 x0, .int .u32 x1, .int .u16 x2, .int .u32 x3, .int .u16 x4, .int .i64 x5, .int .u8 x6, .bool x7, .int .u8 x8] 33))).cell? ⟨w.heap.size, 4, none⟩ = some (.int .u16 0) := d1.at_ 4
  have xd1_5 : ((w1.alloc (.cells #[.int .u8 x0, .int .u32 x1, .int .u16 x2, .int .u32 x3, .int .u16 x4, .int .i64 x5, .int .u8 x6, .bool x7, .int .u8 x8] 33))).cell? ⟨w.heap.size, 5, none⟩ = some (.int .i64 0) := d1.at_ 5
  have xd1_6 : ((w1.alloc (.cells #[.int .u8 x0, .int .u32 x1, .int .u16 x2, .int .u32 x3, .int .u16 x4, .int .i64 x5, .int .u8 x6, .bool x7, .int .u8 x8] 33))).cell? ⟨w.heap.size, 6, none⟩ = some (.int .u8 0) := d1.at_ 6
  have xd1_7 : ((w1.alloc (.cells #[.int .u8 x0, .int .u32 x1, .int .u16 x2, .int .u32 x3, .int .u16 x4, .int .i64 x5, .int .u8 x6, .bool x7, .int .u8 x8] 33))).cell? ⟨w.heap.size, 7, none⟩ = some (.bool false) := d1.at_ 7
  have xd1_8 : ((w1.alloc (.cells #[.int .u8 x0, .int .u32 x1, .int .u16 x2, .int .u32 x3, .int .u16 x4, .int .i64 x5, .int .u8 x6, .bool x7, .int .u8 x8] 33))).cell? ⟨w.heap.size, 8, none⟩ = some (.int .u8 0) := d1.at_ 8
  have yd1_0 : ((w1.alloc (.cells #[.int .u8 x0, .int .u32 x1, .int .u16 x2, .int .u32 x3, .int .u16 x4, .int .i64 x5, .int .u8 x6, .bool x7, .int .u8 x8] 33))).frozen? ⟨w.heap.size, 0, none⟩ = false := d1.free 0
  have yd1_1 : ((w1.alloc (.cells #[.int .u8 x0, .int .u32 x1, .int .u16 x2, .int .u32 x3, .int .u16 x4, .int .i64 x5, .int .u8 x6, .bool x7, .int .u8 x8] 33))).frozen? ⟨w.heap.size, 1, none⟩ = false := d1.free 1
  have yd1_2 : ((w1.alloc (.cells #[.int .u8 x0, .int .u32 x1, .int .u16 x2, .int .u32 x3, .int .u16 x4, .int .i64 x5, .int .u8 x6, .bool x7, .int .u8 x8] 33))).frozen? ⟨w.heap.size, 2, none⟩ = false := d1.free 2
  have yd1_3 : ((w1.alloc (.cells #[.int .u8 x0, .int .u32 x1, .int .u16 x2, .int .u32 x3, .int .u16 x4, .int .i64 x5, .int .u8 x6, .bool x7, .int .u8 x8] 33))).frozen? ⟨w.heap.size, 3, none⟩ = false := d1.free 3
  have yd1_4 : ((w1.alloc (.cells #[.int .u8 x0, .int .u32 x1, .int .u16 x2, .int .u32 x3, .int .u16 x4, .int .i64 x5, .int .u8 x6, .bool x7, .int .u8 x8] 33))).frozen? ⟨w.heap.size, 4, none⟩ = false := d1.free 4
  have yd1_5 : ((w1.alloc (.cells #[.int .u8 x0, .int .u32 x1, .int .u16 x2, .int .u32 x3, .int .u16 x4, .int .i64 x5, .int .u8 x6, .bool x7, .int .u8 x8] 33))).frozen? ⟨w.heap.size, 5, none⟩ = false := d1.free 5
  have yd1_6 : ((w1.alloc (.cells #[.int .u8 x0, .int .u32 x1, .int .u16 x2, .int .u32 x3, .int .u16 x4, .int .i64 x5, .int .u8 x6, .bool x7, .int .u8 x8] 33))).frozen? ⟨w.heap.size, 6, none⟩ = false := d1.free 6
  have yd1_7 : ((w1.alloc (.cells #[.int .u8 x0, .int .u32 x1, .int .u16 x2, .int .u32 x3, .int .u16 x4, .int .i64 x5, .int .u8 x6, .bool x7, .int .u8 x8] 33))).frozen? ⟨w.heap.size, 7, none⟩ = false := d1.free 7
  have yd1_8 : ((w1.alloc (.cells #[.int .u8 x0, .int .u32 x1, .int .u16 x2, .int .u32 x3, .int .u16 x4, .int .i64 x5, .int .u8 x6, .bool x7, .int .u8 x8] 33))).frozen? ⟨w.heap.size, 8, none⟩ = false := d1.free 8
  have xe1_0 : ((w1.alloc (.cells #[.int .u8 x0, .int .u32 x1, .int .u16 x2, .int .u32 x3, .int .u16 x4, .int .i64 x5, .int .u8 x6, .bool x7, .int .u8 x8] 33))).cell? ⟨w1.heap.size, 0, none⟩ = some (.int .u8 x0) := e1.at_ 0
  have xe1_1 : ((w1.alloc (.cells #[.int .u8 x0, .int .u32 x1, .int .u16 x2, .int .u32 x3, .int .u16 x4, .int .i64 x5, .int .u8 x6, .bool x7, .int .u8 x8] 33))).cell? ⟨w1.heap.size, 1, none⟩ = some (.int .u32 x1) := e1.at_ 1
  have xe1_2 : ((w1.alloc (.cells #[.int .u8 x0, .int .u32 x1, .int .u16 x2, .int .u32 x3, .int .u16 x4, .int .i64 x5, .int .u8 x6, .bool x7, .int .u8 x8] 33))).cell? ⟨w1.heap.size, 2, none⟩ = some (.int .u16 x2) := e1.at_ 2
  have xe1_3 : ((w1.alloc (.cells #[.int .u8 x0, .int .u32 x1, .int .u16 x2, .int .u32 x3, .int .u16 x4, .int .i64 x5, .int .u8 x6, .bool x7, .int .u8 x8] 33))).cell? ⟨w1.heap.size, 3, none⟩ = some (.int .u32 x3) := e1.at_ 3
  have xe1_4 : ((w1.alloc (.cells #[.int .u8 x0, .int .u32 x1, .int .u16 x2, .int .u32 x3, .int .u16 x4, .int .i64 x5, .int .u8 x6, .bool x7, .int .u8 x8] 33))).cell? ⟨w1.heap.size, 4, none⟩ = some (.int .u16 x4) := e1.at_ 4
  have xe1_5 : ((w1.alloc (.cells #[.int .u8 x0, .int .u32 x1, .int .u16 x2, .int .u32 x3, .int .u16 x4, .int .i64 x5, .int .u8 x6, .bool x7, .int .u8 x8] 33))).cell? ⟨w1.heap.size, 5, none⟩ = some (.int .i64 x5) := e1.at_ 5
  have xe1_6 : ((w1.alloc (.cells #[.int .u8 x0, .int .u32 x1, .int .u16 x2, .int .u32 x3, .int .u16 x4, .int .i64 x5, .int .u8 x6, .bool x7, .int .u8 x8] 33))).cell? ⟨w1.heap.size, 6, none⟩ = some (.int .u8 x6) := e1.at_ 6
  have xe1_7 : ((w1.alloc (.cells #[.int .u8 x0, .int .u32 x1, .int .u16 x2, .int .u32 x3, .int .u16 x4, .int .i64 x5, .int .u8 x6, .bool x7, .int .u8 x8] 33))).cell? ⟨w1.heap.size, 7, none⟩ = some (.bool x7) := e1.at_ 7
  have xe1_8 : ((w1.alloc (.cells #[.int .u8 x0, .int .u32 x1, .int .u16 x2, .int .u32 x3, .int .u16 x4, .int .i64 x5, .int .u8 x6, .bool x7, .int .u8 x8] 33))).cell? ⟨w1.heap.size, 8, none⟩ = some (.int .u8 x8) := e1.at_ 8
  have D1 := hide d1; have B1 := hide b1
  clear d1 b1 e1
  go_wp2_with fail
  have d1 := D1.out; have b1 := B1.out
  generalize w1.alloc (.cells #[.int .u8 x0, .int .u32 x1, .int .u16 x2, .int .u32 x3, .int .u16 x4, .int .i64 x5, .int .u8 x6, .bool x7, .int .u8 x8] 33) = W at *
  have r5 := (Cells.put9 d1 (.int .u8 x0) (.int .u32 x1) (.int .u16 x2) (.int .u32 x3) (.int .u16 x4) (.int .i64 x5) (.int .u8 x6) (.bool x7) (.int .u8 x8))
  have b5 := (Below.put9 b1 (b := w.heap.size) (by first | exact Nat.le_refl _ | omega) (.int .u8 x0) (.int .u32 x1) (.int .u16 x2) (.int .u32 x3) (.int .u16 x4) (.int .i64 x5) (.int .u8 x6) (.bool x7) (.int .u8 x8))
  have HR5 := hide r5; have HB5 := hide b5
  clear r5 b5 d1
  generalize (((((((((W.setCell ⟨w.heap.size, 0, none⟩ (.int .u8 x0)).setCell ⟨w.heap.size, 1, none⟩ (.int .u32 x1)).setCell ⟨w.heap.size, 2, none⟩ (.int .u16 x2)).setCell ⟨w.heap.size, 3, none⟩ (.int .u32 x3)).setCell ⟨w.heap.size, 4, none⟩ (.int .u16 x4)).setCell ⟨w.heap.size, 5, none⟩ (.int .i64 x5)).setCell ⟨w.heap.size, 6, none⟩ (.int .u8 x6)).setCell ⟨w.heap.size, 7, none⟩ (.bool x7)).setCell ⟨w.heap.size, 8, none⟩ (.int .u8 x8)) = W5 at *
  have r5 := HR5.out; have b5 := HB5.out
  clear HR5 HB5
  have xr5_0 : W5.cell? ⟨w.heap.size, 0, none⟩ = some (.int .u8 x0) := r5.at_ 0
  have xr5_1 : W5.cell? ⟨w.heap.size, 1, none⟩ = some (.int .u32 x1) := r5.at_ 1
  have xr5_2 : W5.cell? ⟨w.heap.size, 2, none⟩ = some (.int .u16 x2) := r5.at_ 2
  have xr5_3 : W5.cell? ⟨w.heap.size, 3, none⟩ = some (.int .u32 x3) := r5.at_ 3
  have xr5_4 : W5.cell? ⟨w.heap.size, 4, none⟩ = some (.int .u16 x4) := r5.at_ 4
  have xr5_5 : W5.cell? ⟨w.heap.size, 5, none⟩ = some (.int .i64 x5) := r5.at_ 5
  have xr5_6 : W5.cell? ⟨w.heap.size, 6, none⟩ = some (.int .u8 x6) := r5.at_ 6
  have xr5_7 : W5.cell? ⟨w.heap.size, 7, none⟩ = some (.bool x7) := r5.at_ 7
  have xr5_8 : W5.cell? ⟨w.heap.size, 8, none⟩ = some (.int .u8 x8) := r5.at_ 8
  (try simp only [Exit.inBlock, Exit.then]); refine bodyPost_ret (by simp [results, Tryd.results7, go_sem, *]; try rfl) rfl ?_
  first | exact ⟨rfl, b5⟩ | exact ⟨by rw [decide_eq_false (by omega)], b5⟩

set_option maxRecDepth 100000 in
set_option maxHeartbeats 2000000 in
theorem tk_len (s : ByteArray) (n x0 x1 x2 x3 x4 x5 x6 x8 r : Int) (x7 : Bool) (w : World) (K0 : Kinds w) (q2 : n < x8) (q3 : ¬ (20 : Int) ≤ (s.size : Int))
    (c1 : ∀ W, Kinds W → Calls Tryd.prog 9 #[.string s] W (Ret (.tuple #[.agg #[.int .u8 x0, .int .u32 x1, .int .u16 x2, .int .u32 x3, .int .u16 x4, .int .i64 x5, .int .u8 x6, .bool x7, .int .u8 x8], .int .i64 0]) W)) :
    Calls Tryd.prog 7 #[.string s, .int .u8 n] w (Ret (.tuple #[.agg #[.int .u8 x0, .int .u32 x1, .int .u16 x2, .int .u32 x3, .int .u16 x4, .int .i64 x5, .int .u8 x6, .bool x7, .int .u8 x8], .bool false]) w) := by
  have C1 := hide c1; have KK := hide K0
  clear c1 K0
  go_enter Tryd.func7, Tryd.ntmps7
  have d0 := Cells.new w #[.int .u8 0, .int .u32 0, .int .u16 0, .int .u32 0, .int .u16 0, .int .i64 0, .int .u8 0, .bool false, .int .u8 0] 33
  go_wp2_with fail
  (with_reducible refine (C1.out _ (KK.out.below (fresh_below _ _))).mono ?_)
  rintro e w1 ⟨rfl, b1⟩
  have d1 := Cells.alloc (Cells.below b1 d0) (.cells #[.int .u8 x0, .int .u32 x1, .int .u16 x2, .int .u32 x3, .int .u16 x4, .int .i64 x5, .int .u8 x6, .bool x7, .int .u8 x8] 33)
  have e1 := Cells.new w1 #[.int .u8 x0, .int .u32 x1, .int .u16 x2, .int .u32 x3, .int .u16 x4, .int .i64 x5, .int .u8 x6, .bool x7, .int .u8 x8] 33
  replace b1 : Below w.heap.size w (w1.alloc (.cells #[.int .u8 x0, .int .u32 x1, .int .u16 x2, .int .u32 x3, .int .u16 x4, .int .i64 x5, .int .u8 x6, .bool x7, .int .u8 x8] 33)) := bstep (bstep (fresh_below _ _) b1) (fresh_below _ _)
  clear d0
  have xd1_0 : ((w1.alloc (.cells #[.int .u8 x0, .int .u32 x1, .int .u16 x2, .int .u32 x3, .int .u16 x4, .int .i64 x5, .int .u8 x6, .bool x7, .int .u8 x8] 33))).cell? ⟨w.heap.size, 0, none⟩ = some (.int .u8 0) := d1.at_ 0
  have xd1_1 : ((w1.alloc (.cells #[.int .u8 x0, .int .u32 x1, .int .u16 x2, .int .u32 x3, .int .u16 x4, .int .i64 x5, .int .u8 x6, .bool x7, .int .u8 x8] 33))).cell? ⟨w.heap.size, 1, none⟩ = some (.int .u32 0) := d1.at_ 1
  have xd1_2 : ((w1.alloc (.cells #[.int .u8 x0, .int .u32 x1, .int .u16 x2, .int .u32 x3, .int .u16 x4, .int .i64 x5, .int .u8 x6, .bool x7, .int .u8 x8] 33))).cell? ⟨w.heap.size, 2, none⟩ = some (.int .u16 0) := d1.at_ 2
  have xd1_3 : ((w1.alloc (.cells #[.int .u8 x0, .int .u32 x1, .int .u16 x2, .int .u32 x3, .int .u16 x4, .int .i64 x5, .int .u8 x6, .bool x7, .int .u8 x8] 33))).cell? ⟨w.heap.size, 3, none⟩ = some (.int .u32 0) := d1.at_ 3
  have xd1_4 : ((w1.alloc (.cells #[.int .u8 x0, .int .u32 x1, .int .u16 x2, .int .u32 x3, .int .u16 x4, .int .i64 x5, .int .u8 x6, .bool x7, .int .u8 x8] 33))).cell? ⟨w.heap.size, 4, none⟩ = some (.int .u16 0) := d1.at_ 4
  have xd1_5 : ((w1.alloc (.cells #[.int .u8 x0, .int .u32 x1, .int .u16 x2, .int .u32 x3, .int .u16 x4, .int .i64 x5, .int .u8 x6, .bool x7, .int .u8 x8] 33))).cell? ⟨w.heap.size, 5, none⟩ = some (.int .i64 0) := d1.at_ 5
  have xd1_6 : ((w1.alloc (.cells #[.int .u8 x0, .int .u32 x1, .int .u16 x2, .int .u32 x3, .int .u16 x4, .int .i64 x5, .int .u8 x6, .bool x7, .int .u8 x8] 33))).cell? ⟨w.heap.size, 6, none⟩ = some (.int .u8 0) := d1.at_ 6
  have xd1_7 : ((w1.alloc (.cells #[.int .u8 x0, .int .u32 x1, .int .u16 x2, .int .u32 x3, .int .u16 x4, .int .i64 x5, .int .u8 x6, .bool x7, .int .u8 x8] 33))).cell? ⟨w.heap.size, 7, none⟩ = some (.bool false) := d1.at_ 7
  have xd1_8 : ((w1.alloc (.cells #[.int .u8 x0, .int .u32 x1, .int .u16 x2, .int .u32 x3, .int .u16 x4, .int .i64 x5, .int .u8 x6, .bool x7, .int .u8 x8] 33))).cell? ⟨w.heap.size, 8, none⟩ = some (.int .u8 0) := d1.at_ 8
  have yd1_0 : ((w1.alloc (.cells #[.int .u8 x0, .int .u32 x1, .int .u16 x2, .int .u32 x3, .int .u16 x4, .int .i64 x5, .int .u8 x6, .bool x7, .int .u8 x8] 33))).frozen? ⟨w.heap.size, 0, none⟩ = false := d1.free 0
  have yd1_1 : ((w1.alloc (.cells #[.int .u8 x0, .int .u32 x1, .int .u16 x2, .int .u32 x3, .int .u16 x4, .int .i64 x5, .int .u8 x6, .bool x7, .int .u8 x8] 33))).frozen? ⟨w.heap.size, 1, none⟩ = false := d1.free 1
  have yd1_2 : ((w1.alloc (.cells #[.int .u8 x0, .int .u32 x1, .int .u16 x2, .int .u32 x3, .int .u16 x4, .int .i64 x5, .int .u8 x6, .bool x7, .int .u8 x8] 33))).frozen? ⟨w.heap.size, 2, none⟩ = false := d1.free 2
  have yd1_3 : ((w1.alloc (.cells #[.int .u8 x0, .int .u32 x1, .int .u16 x2, .int .u32 x3, .int .u16 x4, .int .i64 x5, .int .u8 x6, .bool x7, .int .u8 x8] 33))).frozen? ⟨w.heap.size, 3, none⟩ = false := d1.free 3
  have yd1_4 : ((w1.alloc (.cells #[.int .u8 x0, .int .u32 x1, .int .u16 x2, .int .u32 x3, .int .u16 x4, .int .i64 x5, .int .u8 x6, .bool x7, .int .u8 x8] 33))).frozen? ⟨w.heap.size, 4, none⟩ = false := d1.free 4
  have yd1_5 : ((w1.alloc (.cells #[.int .u8 x0, .int .u32 x1, .int .u16 x2, .int .u32 x3, .int .u16 x4, .int .i64 x5, .int .u8 x6, .bool x7, .int .u8 x8] 33))).frozen? ⟨w.heap.size, 5, none⟩ = false := d1.free 5
  have yd1_6 : ((w1.alloc (.cells #[.int .u8 x0, .int .u32 x1, .int .u16 x2, .int .u32 x3, .int .u16 x4, .int .i64 x5, .int .u8 x6, .bool x7, .int .u8 x8] 33))).frozen? ⟨w.heap.size, 6, none⟩ = false := d1.free 6
  have yd1_7 : ((w1.alloc (.cells #[.int .u8 x0, .int .u32 x1, .int .u16 x2, .int .u32 x3, .int .u16 x4, .int .i64 x5, .int .u8 x6, .bool x7, .int .u8 x8] 33))).frozen? ⟨w.heap.size, 7, none⟩ = false := d1.free 7
  have yd1_8 : ((w1.alloc (.cells #[.int .u8 x0, .int .u32 x1, .int .u16 x2, .int .u32 x3, .int .u16 x4, .int .i64 x5, .int .u8 x6, .bool x7, .int .u8 x8] 33))).frozen? ⟨w.heap.size, 8, none⟩ = false := d1.free 8
  have xe1_0 : ((w1.alloc (.cells #[.int .u8 x0, .int .u32 x1, .int .u16 x2, .int .u32 x3, .int .u16 x4, .int .i64 x5, .int .u8 x6, .bool x7, .int .u8 x8] 33))).cell? ⟨w1.heap.size, 0, none⟩ = some (.int .u8 x0) := e1.at_ 0
  have xe1_1 : ((w1.alloc (.cells #[.int .u8 x0, .int .u32 x1, .int .u16 x2, .int .u32 x3, .int .u16 x4, .int .i64 x5, .int .u8 x6, .bool x7, .int .u8 x8] 33))).cell? ⟨w1.heap.size, 1, none⟩ = some (.int .u32 x1) := e1.at_ 1
  have xe1_2 : ((w1.alloc (.cells #[.int .u8 x0, .int .u32 x1, .int .u16 x2, .int .u32 x3, .int .u16 x4, .int .i64 x5, .int .u8 x6, .bool x7, .int .u8 x8] 33))).cell? ⟨w1.heap.size, 2, none⟩ = some (.int .u16 x2) := e1.at_ 2
  have xe1_3 : ((w1.alloc (.cells #[.int .u8 x0, .int .u32 x1, .int .u16 x2, .int .u32 x3, .int .u16 x4, .int .i64 x5, .int .u8 x6, .bool x7, .int .u8 x8] 33))).cell? ⟨w1.heap.size, 3, none⟩ = some (.int .u32 x3) := e1.at_ 3
  have xe1_4 : ((w1.alloc (.cells #[.int .u8 x0, .int .u32 x1, .int .u16 x2, .int .u32 x3, .int .u16 x4, .int .i64 x5, .int .u8 x6, .bool x7, .int .u8 x8] 33))).cell? ⟨w1.heap.size, 4, none⟩ = some (.int .u16 x4) := e1.at_ 4
  have xe1_5 : ((w1.alloc (.cells #[.int .u8 x0, .int .u32 x1, .int .u16 x2, .int .u32 x3, .int .u16 x4, .int .i64 x5, .int .u8 x6, .bool x7, .int .u8 x8] 33))).cell? ⟨w1.heap.size, 5, none⟩ = some (.int .i64 x5) := e1.at_ 5
  have xe1_6 : ((w1.alloc (.cells #[.int .u8 x0, .int .u32 x1, .int .u16 x2, .int .u32 x3, .int .u16 x4, .int .i64 x5, .int .u8 x6, .bool x7, .int .u8 x8] 33))).cell? ⟨w1.heap.size, 6, none⟩ = some (.int .u8 x6) := e1.at_ 6
  have xe1_7 : ((w1.alloc (.cells #[.int .u8 x0, .int .u32 x1, .int .u16 x2, .int .u32 x3, .int .u16 x4, .int .i64 x5, .int .u8 x6, .bool x7, .int .u8 x8] 33))).cell? ⟨w1.heap.size, 7, none⟩ = some (.bool x7) := e1.at_ 7
  have xe1_8 : ((w1.alloc (.cells #[.int .u8 x0, .int .u32 x1, .int .u16 x2, .int .u32 x3, .int .u16 x4, .int .i64 x5, .int .u8 x6, .bool x7, .int .u8 x8] 33))).cell? ⟨w1.heap.size, 8, none⟩ = some (.int .u8 x8) := e1.at_ 8
  have D1 := hide d1; have B1 := hide b1
  clear d1 b1 e1
  go_wp2_with fail
  have d1 := D1.out; have b1 := B1.out
  generalize w1.alloc (.cells #[.int .u8 x0, .int .u32 x1, .int .u16 x2, .int .u32 x3, .int .u16 x4, .int .i64 x5, .int .u8 x6, .bool x7, .int .u8 x8] 33) = W at *
  have r5 := (Cells.put9 d1 (.int .u8 x0) (.int .u32 x1) (.int .u16 x2) (.int .u32 x3) (.int .u16 x4) (.int .i64 x5) (.int .u8 x6) (.bool x7) (.int .u8 x8))
  have b5 := (Below.put9 b1 (b := w.heap.size) (by first | exact Nat.le_refl _ | omega) (.int .u8 x0) (.int .u32 x1) (.int .u16 x2) (.int .u32 x3) (.int .u16 x4) (.int .i64 x5) (.int .u8 x6) (.bool x7) (.int .u8 x8))
  have HR5 := hide r5; have HB5 := hide b5
  clear r5 b5 d1
  generalize (((((((((W.setCell ⟨w.heap.size, 0, none⟩ (.int .u8 x0)).setCell ⟨w.heap.size, 1, none⟩ (.int .u32 x1)).setCell ⟨w.heap.size, 2, none⟩ (.int .u16 x2)).setCell ⟨w.heap.size, 3, none⟩ (.int .u32 x3)).setCell ⟨w.heap.size, 4, none⟩ (.int .u16 x4)).setCell ⟨w.heap.size, 5, none⟩ (.int .i64 x5)).setCell ⟨w.heap.size, 6, none⟩ (.int .u8 x6)).setCell ⟨w.heap.size, 7, none⟩ (.bool x7)).setCell ⟨w.heap.size, 8, none⟩ (.int .u8 x8)) = W5 at *
  have r5 := HR5.out; have b5 := HB5.out
  clear HR5 HB5
  have xr5_0 : W5.cell? ⟨w.heap.size, 0, none⟩ = some (.int .u8 x0) := r5.at_ 0
  have xr5_1 : W5.cell? ⟨w.heap.size, 1, none⟩ = some (.int .u32 x1) := r5.at_ 1
  have xr5_2 : W5.cell? ⟨w.heap.size, 2, none⟩ = some (.int .u16 x2) := r5.at_ 2
  have xr5_3 : W5.cell? ⟨w.heap.size, 3, none⟩ = some (.int .u32 x3) := r5.at_ 3
  have xr5_4 : W5.cell? ⟨w.heap.size, 4, none⟩ = some (.int .u16 x4) := r5.at_ 4
  have xr5_5 : W5.cell? ⟨w.heap.size, 5, none⟩ = some (.int .i64 x5) := r5.at_ 5
  have xr5_6 : W5.cell? ⟨w.heap.size, 6, none⟩ = some (.int .u8 x6) := r5.at_ 6
  have xr5_7 : W5.cell? ⟨w.heap.size, 7, none⟩ = some (.bool x7) := r5.at_ 7
  have xr5_8 : W5.cell? ⟨w.heap.size, 8, none⟩ = some (.int .u8 x8) := r5.at_ 8
  (try simp only [Exit.inBlock, Exit.then]); refine bodyPost_ret (by simp [results, Tryd.results7, go_sem, *]; try rfl) rfl ?_
  first | exact ⟨rfl, b5⟩ | exact ⟨by rw [decide_eq_false (by omega)], b5⟩

set_option maxRecDepth 100000 in
set_option maxHeartbeats 2000000 in
theorem tk_yes (s : ByteArray) (n x0 x1 x2 x3 x4 x5 x6 x8 r : Int) (x7 : Bool) (w : World) (K0 : Kinds w) (q2 : n < x8) (q3 : (20 : Int) ≤ (s.size : Int))
    (c1 : ∀ W, Kinds W → Calls Tryd.prog 9 #[.string s] W (Ret (.tuple #[.agg #[.int .u8 x0, .int .u32 x1, .int .u16 x2, .int .u32 x3, .int .u16 x4, .int .i64 x5, .int .u8 x6, .bool x7, .int .u8 x8], .int .i64 0]) W)) :
    Calls Tryd.prog 7 #[.string s, .int .u8 n] w (Ret (.tuple #[.agg #[.int .u8 x0, .int .u32 x1, .int .u16 x2, .int .u32 x3, .int .u16 x4, .int .i64 x5, .int .u8 x6, .bool x7, .int .u8 x8], .bool true]) w) := by
  have C1 := hide c1; have KK := hide K0
  clear c1 K0
  go_enter Tryd.func7, Tryd.ntmps7
  have d0 := Cells.new w #[.int .u8 0, .int .u32 0, .int .u16 0, .int .u32 0, .int .u16 0, .int .i64 0, .int .u8 0, .bool false, .int .u8 0] 33
  go_wp2_with fail
  (with_reducible refine (C1.out _ (KK.out.below (fresh_below _ _))).mono ?_)
  rintro e w1 ⟨rfl, b1⟩
  have d1 := Cells.alloc (Cells.below b1 d0) (.cells #[.int .u8 x0, .int .u32 x1, .int .u16 x2, .int .u32 x3, .int .u16 x4, .int .i64 x5, .int .u8 x6, .bool x7, .int .u8 x8] 33)
  have e1 := Cells.new w1 #[.int .u8 x0, .int .u32 x1, .int .u16 x2, .int .u32 x3, .int .u16 x4, .int .i64 x5, .int .u8 x6, .bool x7, .int .u8 x8] 33
  replace b1 : Below w.heap.size w (w1.alloc (.cells #[.int .u8 x0, .int .u32 x1, .int .u16 x2, .int .u32 x3, .int .u16 x4, .int .i64 x5, .int .u8 x6, .bool x7, .int .u8 x8] 33)) := bstep (bstep (fresh_below _ _) b1) (fresh_below _ _)
  clear d0
  have xd1_0 : ((w1.alloc (.cells #[.int .u8 x0, .int .u32 x1, .int .u16 x2, .int .u32 x3, .int .u16 x4, .int .i64 x5, .int .u8 x6, .bool x7, .int .u8 x8] 33))).cell? ⟨w.heap.size, 0, none⟩ = some (.int .u8 0) := d1.at_ 0
  have xd1_1 : ((w1.alloc (.cells #[.int .u8 x0, .int .u32 x1, .int .u16 x2, .int .u32 x3, .int .u16 x4, .int .i64 x5, .int .u8 x6, .bool x7, .int .u8 x8] 33))).cell? ⟨w.heap.size, 1, none⟩ = some (.int .u32 0) := d1.at_ 1
  have xd1_2 : ((w1.alloc (.cells #[.int .u8 x0, .int .u32 x1, .int .u16 x2, .int .u32 x3, .int .u16 x4, .int .i64 x5, .int .u8 x6, .bool x7, .int .u8 x8] 33))).cell? ⟨w.heap.size, 2, none⟩ = some (.int .u16 0) := d1.at_ 2
  have xd1_3 : ((w1.alloc (.cells #[.int .u8 x0, .int .u32 x1, .int .u16 x2, .int .u32 x3, .int .u16 x4, .int .i64 x5, .int .u8 x6, .bool x7, .int .u8 x8] 33))).cell? ⟨w.heap.size, 3, none⟩ = some (.int .u32 0) := d1.at_ 3
  have xd1_4 : ((w1.alloc (.cells #[.int .u8 x0, .int .u32 x1, .int .u16 x2, .int .u32 x3, .int .u16 x4, .int .i64 x5, .int .u8 x6, .bool x7, .int .u8 x8] 33))).cell? ⟨w.heap.size, 4, none⟩ = some (.int .u16 0) := d1.at_ 4
  have xd1_5 : ((w1.alloc (.cells #[.int .u8 x0, .int .u32 x1, .int .u16 x2, .int .u32 x3, .int .u16 x4, .int .i64 x5, .int .u8 x6, .bool x7, .int .u8 x8] 33))).cell? ⟨w.heap.size, 5, none⟩ = some (.int .i64 0) := d1.at_ 5
  have xd1_6 : ((w1.alloc (.cells #[.int .u8 x0, .int .u32 x1, .int .u16 x2, .int .u32 x3, .int .u16 x4, .int .i64 x5, .int .u8 x6, .bool x7, .int .u8 x8] 33))).cell? ⟨w.heap.size, 6, none⟩ = some (.int .u8 0) := d1.at_ 6
  have xd1_7 : ((w1.alloc (.cells #[.int .u8 x0, .int .u32 x1, .int .u16 x2, .int .u32 x3, .int .u16 x4, .int .i64 x5, .int .u8 x6, .bool x7, .int .u8 x8] 33))).cell? ⟨w.heap.size, 7, none⟩ = some (.bool false) := d1.at_ 7
  have xd1_8 : ((w1.alloc (.cells #[.int .u8 x0, .int .u32 x1, .int .u16 x2, .int .u32 x3, .int .u16 x4, .int .i64 x5, .int .u8 x6, .bool x7, .int .u8 x8] 33))).cell? ⟨w.heap.size, 8, none⟩ = some (.int .u8 0) := d1.at_ 8
  have yd1_0 : ((w1.alloc (.cells #[.int .u8 x0, .int .u32 x1, .int .u16 x2, .int .u32 x3, .int .u16 x4, .int .i64 x5, .int .u8 x6, .bool x7, .int .u8 x8] 33))).frozen? ⟨w.heap.size, 0, none⟩ = false := d1.free 0
  have yd1_1 : ((w1.alloc (.cells #[.int .u8 x0, .int .u32 x1, .int .u16 x2, .int .u32 x3, .int .u16 x4, .int .i64 x5, .int .u8 x6, .bool x7, .int .u8 x8] 33))).frozen? ⟨w.heap.size, 1, none⟩ = false := d1.free 1
  have yd1_2 : ((w1.alloc (.cells #[.int .u8 x0, .int .u32 x1, .int .u16 x2, .int .u32 x3, .int .u16 x4, .int .i64 x5, .int .u8 x6, .bool x7, .int .u8 x8] 33))).frozen? ⟨w.heap.size, 2, none⟩ = false := d1.free 2
  have yd1_3 : ((w1.alloc (.cells #[.int .u8 x0, .int .u32 x1, .int .u16 x2, .int .u32 x3, .int .u16 x4, .int .i64 x5, .int .u8 x6, .bool x7, .int .u8 x8] 33))).frozen? ⟨w.heap.size, 3, none⟩ = false := d1.free 3
  have yd1_4 : ((w1.alloc (.cells #[.int .u8 x0, .int .u32 x1, .int .u16 x2, .int .u32 x3, .int .u16 x4, .int .i64 x5, .int .u8 x6, .bool x7, .int .u8 x8] 33))).frozen? ⟨w.heap.size, 4, none⟩ = false := d1.free 4
  have yd1_5 : ((w1.alloc (.cells #[.int .u8 x0, .int .u32 x1, .int .u16 x2, .int .u32 x3, .int .u16 x4, .int .i64 x5, .int .u8 x6, .bool x7, .int .u8 x8] 33))).frozen? ⟨w.heap.size, 5, none⟩ = false := d1.free 5
  have yd1_6 : ((w1.alloc (.cells #[.int .u8 x0, .int .u32 x1, .int .u16 x2, .int .u32 x3, .int .u16 x4, .int .i64 x5, .int .u8 x6, .bool x7, .int .u8 x8] 33))).frozen? ⟨w.heap.size, 6, none⟩ = false := d1.free 6
  have yd1_7 : ((w1.alloc (.cells #[.int .u8 x0, .int .u32 x1, .int .u16 x2, .int .u32 x3, .int .u16 x4, .int .i64 x5, .int .u8 x6, .bool x7, .int .u8 x8] 33))).frozen? ⟨w.heap.size, 7, none⟩ = false := d1.free 7
  have yd1_8 : ((w1.alloc (.cells #[.int .u8 x0, .int .u32 x1, .int .u16 x2, .int .u32 x3, .int .u16 x4, .int .i64 x5, .int .u8 x6, .bool x7, .int .u8 x8] 33))).frozen? ⟨w.heap.size, 8, none⟩ = false := d1.free 8
  have xe1_0 : ((w1.alloc (.cells #[.int .u8 x0, .int .u32 x1, .int .u16 x2, .int .u32 x3, .int .u16 x4, .int .i64 x5, .int .u8 x6, .bool x7, .int .u8 x8] 33))).cell? ⟨w1.heap.size, 0, none⟩ = some (.int .u8 x0) := e1.at_ 0
  have xe1_1 : ((w1.alloc (.cells #[.int .u8 x0, .int .u32 x1, .int .u16 x2, .int .u32 x3, .int .u16 x4, .int .i64 x5, .int .u8 x6, .bool x7, .int .u8 x8] 33))).cell? ⟨w1.heap.size, 1, none⟩ = some (.int .u32 x1) := e1.at_ 1
  have xe1_2 : ((w1.alloc (.cells #[.int .u8 x0, .int .u32 x1, .int .u16 x2, .int .u32 x3, .int .u16 x4, .int .i64 x5, .int .u8 x6, .bool x7, .int .u8 x8] 33))).cell? ⟨w1.heap.size, 2, none⟩ = some (.int .u16 x2) := e1.at_ 2
  have xe1_3 : ((w1.alloc (.cells #[.int .u8 x0, .int .u32 x1, .int .u16 x2, .int .u32 x3, .int .u16 x4, .int .i64 x5, .int .u8 x6, .bool x7, .int .u8 x8] 33))).cell? ⟨w1.heap.size, 3, none⟩ = some (.int .u32 x3) := e1.at_ 3
  have xe1_4 : ((w1.alloc (.cells #[.int .u8 x0, .int .u32 x1, .int .u16 x2, .int .u32 x3, .int .u16 x4, .int .i64 x5, .int .u8 x6, .bool x7, .int .u8 x8] 33))).cell? ⟨w1.heap.size, 4, none⟩ = some (.int .u16 x4) := e1.at_ 4
  have xe1_5 : ((w1.alloc (.cells #[.int .u8 x0, .int .u32 x1, .int .u16 x2, .int .u32 x3, .int .u16 x4, .int .i64 x5, .int .u8 x6, .bool x7, .int .u8 x8] 33))).cell? ⟨w1.heap.size, 5, none⟩ = some (.int .i64 x5) := e1.at_ 5
  have xe1_6 : ((w1.alloc (.cells #[.int .u8 x0, .int .u32 x1, .int .u16 x2, .int .u32 x3, .int .u16 x4, .int .i64 x5, .int .u8 x6, .bool x7, .int .u8 x8] 33))).cell? ⟨w1.heap.size, 6, none⟩ = some (.int .u8 x6) := e1.at_ 6
  have xe1_7 : ((w1.alloc (.cells #[.int .u8 x0, .int .u32 x1, .int .u16 x2, .int .u32 x3, .int .u16 x4, .int .i64 x5, .int .u8 x6, .bool x7, .int .u8 x8] 33))).cell? ⟨w1.heap.size, 7, none⟩ = some (.bool x7) := e1.at_ 7
  have xe1_8 : ((w1.alloc (.cells #[.int .u8 x0, .int .u32 x1, .int .u16 x2, .int .u32 x3, .int .u16 x4, .int .i64 x5, .int .u8 x6, .bool x7, .int .u8 x8] 33))).cell? ⟨w1.heap.size, 8, none⟩ = some (.int .u8 x8) := e1.at_ 8
  have D1 := hide d1; have B1 := hide b1
  clear d1 b1 e1
  go_wp2_with fail
  have d1 := D1.out; have b1 := B1.out
  generalize w1.alloc (.cells #[.int .u8 x0, .int .u32 x1, .int .u16 x2, .int .u32 x3, .int .u16 x4, .int .i64 x5, .int .u8 x6, .bool x7, .int .u8 x8] 33) = W at *
  have r5 := (Cells.put9 d1 (.int .u8 x0) (.int .u32 x1) (.int .u16 x2) (.int .u32 x3) (.int .u16 x4) (.int .i64 x5) (.int .u8 x6) (.bool x7) (.int .u8 x8))
  have b5 := (Below.put9 b1 (b := w.heap.size) (by first | exact Nat.le_refl _ | omega) (.int .u8 x0) (.int .u32 x1) (.int .u16 x2) (.int .u32 x3) (.int .u16 x4) (.int .i64 x5) (.int .u8 x6) (.bool x7) (.int .u8 x8))
  have HR5 := hide r5; have HB5 := hide b5
  clear r5 b5 d1
  generalize (((((((((W.setCell ⟨w.heap.size, 0, none⟩ (.int .u8 x0)).setCell ⟨w.heap.size, 1, none⟩ (.int .u32 x1)).setCell ⟨w.heap.size, 2, none⟩ (.int .u16 x2)).setCell ⟨w.heap.size, 3, none⟩ (.int .u32 x3)).setCell ⟨w.heap.size, 4, none⟩ (.int .u16 x4)).setCell ⟨w.heap.size, 5, none⟩ (.int .i64 x5)).setCell ⟨w.heap.size, 6, none⟩ (.int .u8 x6)).setCell ⟨w.heap.size, 7, none⟩ (.bool x7)).setCell ⟨w.heap.size, 8, none⟩ (.int .u8 x8)) = W5 at *
  have r5 := HR5.out; have b5 := HB5.out
  clear HR5 HB5
  have xr5_0 : W5.cell? ⟨w.heap.size, 0, none⟩ = some (.int .u8 x0) := r5.at_ 0
  have xr5_1 : W5.cell? ⟨w.heap.size, 1, none⟩ = some (.int .u32 x1) := r5.at_ 1
  have xr5_2 : W5.cell? ⟨w.heap.size, 2, none⟩ = some (.int .u16 x2) := r5.at_ 2
  have xr5_3 : W5.cell? ⟨w.heap.size, 3, none⟩ = some (.int .u32 x3) := r5.at_ 3
  have xr5_4 : W5.cell? ⟨w.heap.size, 4, none⟩ = some (.int .u16 x4) := r5.at_ 4
  have xr5_5 : W5.cell? ⟨w.heap.size, 5, none⟩ = some (.int .i64 x5) := r5.at_ 5
  have xr5_6 : W5.cell? ⟨w.heap.size, 6, none⟩ = some (.int .u8 x6) := r5.at_ 6
  have xr5_7 : W5.cell? ⟨w.heap.size, 7, none⟩ = some (.bool x7) := r5.at_ 7
  have xr5_8 : W5.cell? ⟨w.heap.size, 8, none⟩ = some (.int .u8 x8) := r5.at_ 8
  (try simp only [Exit.inBlock, Exit.then]); refine bodyPost_ret (by simp [results, Tryd.results7, go_sem, *]; try rfl) rfl ?_
  first | exact ⟨rfl, b5⟩ | exact ⟨by rw [decide_eq_false (by omega)], b5⟩

theorem taken_walk (s : ByteArray) (n : Int) (w : World) (K0 : Kinds w) (hs : s.size ≤ 140737488351232) :
    Calls Tryd.prog 7 #[.string s, .int .u8 n] w (Ret (.tuple #[.agg (seenOf s).cells, .bool (decide (seenWhy s = 0 ∧ n < (seenOf s).l ∧ 20 ≤ s.size))]) w) := by
  have c1 := fun W K => tu_Of s W K hs
  unfold Seen.cells at c1 ⊢
  by_cases h1 : seenWhy s = 0
  · rw [h1] at c1
    by_cases h2 : n < (seenOf s).l
    · by_cases h3 : 20 ≤ s.size
      · rw [decide_eq_true ⟨h1, h2, h3⟩]
        exact tk_yes s n _ _ _ _ _ _ _ _ 0 _ w K0 h2 (by omega) c1
      · rw [decide_eq_false (fun h => h3 h.2.2)]
        exact tk_len s n _ _ _ _ _ _ _ _ 0 _ w K0 h2 (by omega) c1
    · rw [decide_eq_false (fun h => h2 h.2.1)]
      exact tk_ttl s n _ _ _ _ _ _ _ _ 0 _ w K0 h2 c1
  · rw [decide_eq_false (fun h => h1 h.1)]
    exact tk_why s n _ _ _ _ _ _ _ _ (seenWhy s) _ w K0 (by simpa using h1) c1

set_option maxRecDepth 100000 in
set_option maxHeartbeats 2000000 in
theorem sm_tcp (s : ByteArray) (y x0 x1 x2 x3 x4 x5 x6 x8 r : Int) (x7 : Bool) (w : World) (K0 : Kinds w) (i5 : 0 < s.size) (i4 : (0 : Int) < (s.size : Int)) (hb : 0 ≤ y ∧ y ≤ 255) (e0 : (((s[0]'i5).toNat : Nat) : Int) = y) (q1 : (x0 == 6) = true)
    (c1 : ∀ W, Kinds W → Calls Tryd.prog 9 #[.string s] W (Ret (.tuple #[.agg #[.int .u8 x0, .int .u32 x1, .int .u16 x2, .int .u32 x3, .int .u16 x4, .int .i64 x5, .int .u8 x6, .bool x7, .int .u8 x8], .int .i64 r]) W)) :
    Calls Tryd.prog 10 #[.string s] w (Ret (.int .i64 (y % 16 * 4 + 16)) w) := by
  have C1 := hide c1; have KK := hide K0
  clear c1 K0
  go_enter Tryd.func10, Tryd.ntmps10
  go_wp2_with fail
  (with_reducible refine (C1.out _ KK.out).mono ?_)
  rintro e w1 ⟨rfl, b1⟩
  have e1 := Cells.new w1 #[.int .u8 x0, .int .u32 x1, .int .u16 x2, .int .u32 x3, .int .u16 x4, .int .i64 x5, .int .u8 x6, .bool x7, .int .u8 x8] 33
  replace b1 : Below w.heap.size w (w1.alloc (.cells #[.int .u8 x0, .int .u32 x1, .int .u16 x2, .int .u32 x3, .int .u16 x4, .int .i64 x5, .int .u8 x6, .bool x7, .int .u8 x8] 33)) := bstep b1 (fresh_below _ _)
  have xe1_0 : ((w1.alloc (.cells #[.int .u8 x0, .int .u32 x1, .int .u16 x2, .int .u32 x3, .int .u16 x4, .int .i64 x5, .int .u8 x6, .bool x7, .int .u8 x8] 33))).cell? ⟨w1.heap.size, 0, none⟩ = some (.int .u8 x0) := e1.at_ 0
  have xe1_1 : ((w1.alloc (.cells #[.int .u8 x0, .int .u32 x1, .int .u16 x2, .int .u32 x3, .int .u16 x4, .int .i64 x5, .int .u8 x6, .bool x7, .int .u8 x8] 33))).cell? ⟨w1.heap.size, 1, none⟩ = some (.int .u32 x1) := e1.at_ 1
  have xe1_2 : ((w1.alloc (.cells #[.int .u8 x0, .int .u32 x1, .int .u16 x2, .int .u32 x3, .int .u16 x4, .int .i64 x5, .int .u8 x6, .bool x7, .int .u8 x8] 33))).cell? ⟨w1.heap.size, 2, none⟩ = some (.int .u16 x2) := e1.at_ 2
  have xe1_3 : ((w1.alloc (.cells #[.int .u8 x0, .int .u32 x1, .int .u16 x2, .int .u32 x3, .int .u16 x4, .int .i64 x5, .int .u8 x6, .bool x7, .int .u8 x8] 33))).cell? ⟨w1.heap.size, 3, none⟩ = some (.int .u32 x3) := e1.at_ 3
  have xe1_4 : ((w1.alloc (.cells #[.int .u8 x0, .int .u32 x1, .int .u16 x2, .int .u32 x3, .int .u16 x4, .int .i64 x5, .int .u8 x6, .bool x7, .int .u8 x8] 33))).cell? ⟨w1.heap.size, 4, none⟩ = some (.int .u16 x4) := e1.at_ 4
  have xe1_5 : ((w1.alloc (.cells #[.int .u8 x0, .int .u32 x1, .int .u16 x2, .int .u32 x3, .int .u16 x4, .int .i64 x5, .int .u8 x6, .bool x7, .int .u8 x8] 33))).cell? ⟨w1.heap.size, 5, none⟩ = some (.int .i64 x5) := e1.at_ 5
  have xe1_6 : ((w1.alloc (.cells #[.int .u8 x0, .int .u32 x1, .int .u16 x2, .int .u32 x3, .int .u16 x4, .int .i64 x5, .int .u8 x6, .bool x7, .int .u8 x8] 33))).cell? ⟨w1.heap.size, 6, none⟩ = some (.int .u8 x6) := e1.at_ 6
  have xe1_7 : ((w1.alloc (.cells #[.int .u8 x0, .int .u32 x1, .int .u16 x2, .int .u32 x3, .int .u16 x4, .int .i64 x5, .int .u8 x6, .bool x7, .int .u8 x8] 33))).cell? ⟨w1.heap.size, 7, none⟩ = some (.bool x7) := e1.at_ 7
  have xe1_8 : ((w1.alloc (.cells #[.int .u8 x0, .int .u32 x1, .int .u16 x2, .int .u32 x3, .int .u16 x4, .int .i64 x5, .int .u8 x6, .bool x7, .int .u8 x8] 33))).cell? ⟨w1.heap.size, 8, none⟩ = some (.int .u8 x8) := e1.at_ 8
  clear e1
  go_wp2_with fail
  (try simp only [Exit.inBlock, Exit.then]); refine bodyPost_ret (by simp [results, Tryd.results10, go_sem]; try rfl) rfl ?_
  exact ⟨by first | rfl | (simp; omega), b1⟩

set_option maxRecDepth 100000 in
set_option maxHeartbeats 2000000 in
theorem sm_udp (s : ByteArray) (y x0 x1 x2 x3 x4 x5 x6 x8 r : Int) (x7 : Bool) (w : World) (K0 : Kinds w) (i5 : 0 < s.size) (i4 : (0 : Int) < (s.size : Int)) (hb : 0 ≤ y ∧ y ≤ 255) (e0 : (((s[0]'i5).toNat : Nat) : Int) = y) (q1 : (x0 == 6) = false) (q2 : (x0 == 17) = true)
    (c1 : ∀ W, Kinds W → Calls Tryd.prog 9 #[.string s] W (Ret (.tuple #[.agg #[.int .u8 x0, .int .u32 x1, .int .u16 x2, .int .u32 x3, .int .u16 x4, .int .i64 x5, .int .u8 x6, .bool x7, .int .u8 x8], .int .i64 r]) W)) :
    Calls Tryd.prog 10 #[.string s] w (Ret (.int .i64 (y % 16 * 4 + 6)) w) := by
  have C1 := hide c1; have KK := hide K0
  clear c1 K0
  go_enter Tryd.func10, Tryd.ntmps10
  go_wp2_with fail
  (with_reducible refine (C1.out _ KK.out).mono ?_)
  rintro e w1 ⟨rfl, b1⟩
  have e1 := Cells.new w1 #[.int .u8 x0, .int .u32 x1, .int .u16 x2, .int .u32 x3, .int .u16 x4, .int .i64 x5, .int .u8 x6, .bool x7, .int .u8 x8] 33
  replace b1 : Below w.heap.size w (w1.alloc (.cells #[.int .u8 x0, .int .u32 x1, .int .u16 x2, .int .u32 x3, .int .u16 x4, .int .i64 x5, .int .u8 x6, .bool x7, .int .u8 x8] 33)) := bstep b1 (fresh_below _ _)
  have xe1_0 : ((w1.alloc (.cells #[.int .u8 x0, .int .u32 x1, .int .u16 x2, .int .u32 x3, .int .u16 x4, .int .i64 x5, .int .u8 x6, .bool x7, .int .u8 x8] 33))).cell? ⟨w1.heap.size, 0, none⟩ = some (.int .u8 x0) := e1.at_ 0
  have xe1_1 : ((w1.alloc (.cells #[.int .u8 x0, .int .u32 x1, .int .u16 x2, .int .u32 x3, .int .u16 x4, .int .i64 x5, .int .u8 x6, .bool x7, .int .u8 x8] 33))).cell? ⟨w1.heap.size, 1, none⟩ = some (.int .u32 x1) := e1.at_ 1
  have xe1_2 : ((w1.alloc (.cells #[.int .u8 x0, .int .u32 x1, .int .u16 x2, .int .u32 x3, .int .u16 x4, .int .i64 x5, .int .u8 x6, .bool x7, .int .u8 x8] 33))).cell? ⟨w1.heap.size, 2, none⟩ = some (.int .u16 x2) := e1.at_ 2
  have xe1_3 : ((w1.alloc (.cells #[.int .u8 x0, .int .u32 x1, .int .u16 x2, .int .u32 x3, .int .u16 x4, .int .i64 x5, .int .u8 x6, .bool x7, .int .u8 x8] 33))).cell? ⟨w1.heap.size, 3, none⟩ = some (.int .u32 x3) := e1.at_ 3
  have xe1_4 : ((w1.alloc (.cells #[.int .u8 x0, .int .u32 x1, .int .u16 x2, .int .u32 x3, .int .u16 x4, .int .i64 x5, .int .u8 x6, .bool x7, .int .u8 x8] 33))).cell? ⟨w1.heap.size, 4, none⟩ = some (.int .u16 x4) := e1.at_ 4
  have xe1_5 : ((w1.alloc (.cells #[.int .u8 x0, .int .u32 x1, .int .u16 x2, .int .u32 x3, .int .u16 x4, .int .i64 x5, .int .u8 x6, .bool x7, .int .u8 x8] 33))).cell? ⟨w1.heap.size, 5, none⟩ = some (.int .i64 x5) := e1.at_ 5
  have xe1_6 : ((w1.alloc (.cells #[.int .u8 x0, .int .u32 x1, .int .u16 x2, .int .u32 x3, .int .u16 x4, .int .i64 x5, .int .u8 x6, .bool x7, .int .u8 x8] 33))).cell? ⟨w1.heap.size, 6, none⟩ = some (.int .u8 x6) := e1.at_ 6
  have xe1_7 : ((w1.alloc (.cells #[.int .u8 x0, .int .u32 x1, .int .u16 x2, .int .u32 x3, .int .u16 x4, .int .i64 x5, .int .u8 x6, .bool x7, .int .u8 x8] 33))).cell? ⟨w1.heap.size, 7, none⟩ = some (.bool x7) := e1.at_ 7
  have xe1_8 : ((w1.alloc (.cells #[.int .u8 x0, .int .u32 x1, .int .u16 x2, .int .u32 x3, .int .u16 x4, .int .i64 x5, .int .u8 x6, .bool x7, .int .u8 x8] 33))).cell? ⟨w1.heap.size, 8, none⟩ = some (.int .u8 x8) := e1.at_ 8
  clear e1
  go_wp2_with fail
  (try simp only [Exit.inBlock, Exit.then]); refine bodyPost_ret (by simp [results, Tryd.results10, go_sem]; try rfl) rfl ?_
  exact ⟨by first | rfl | (simp; omega), b1⟩

set_option maxRecDepth 100000 in
set_option maxHeartbeats 2000000 in
theorem sm_err (s : ByteArray) (y x0 x1 x2 x3 x4 x5 x6 x8 r : Int) (x7 : Bool) (w : World) (K0 : Kinds w) (i5 : 0 < s.size) (i4 : (0 : Int) < (s.size : Int)) (hb : 0 ≤ y ∧ y ≤ 255) (e0 : (((s[0]'i5).toNat : Nat) : Int) = y) (q1 : (x0 == 6) = false) (q2 : (x0 == 17) = false) (q3 : (x5 == 3) = true)
    (c1 : ∀ W, Kinds W → Calls Tryd.prog 9 #[.string s] W (Ret (.tuple #[.agg #[.int .u8 x0, .int .u32 x1, .int .u16 x2, .int .u32 x3, .int .u16 x4, .int .i64 x5, .int .u8 x6, .bool x7, .int .u8 x8], .int .i64 r]) W)) :
    Calls Tryd.prog 10 #[.string s] w (Ret (.int .i64 0) w) := by
  have C1 := hide c1; have KK := hide K0
  clear c1 K0
  go_enter Tryd.func10, Tryd.ntmps10
  go_wp2_with fail
  (with_reducible refine (C1.out _ KK.out).mono ?_)
  rintro e w1 ⟨rfl, b1⟩
  have e1 := Cells.new w1 #[.int .u8 x0, .int .u32 x1, .int .u16 x2, .int .u32 x3, .int .u16 x4, .int .i64 x5, .int .u8 x6, .bool x7, .int .u8 x8] 33
  replace b1 : Below w.heap.size w (w1.alloc (.cells #[.int .u8 x0, .int .u32 x1, .int .u16 x2, .int .u32 x3, .int .u16 x4, .int .i64 x5, .int .u8 x6, .bool x7, .int .u8 x8] 33)) := bstep b1 (fresh_below _ _)
  have xe1_0 : ((w1.alloc (.cells #[.int .u8 x0, .int .u32 x1, .int .u16 x2, .int .u32 x3, .int .u16 x4, .int .i64 x5, .int .u8 x6, .bool x7, .int .u8 x8] 33))).cell? ⟨w1.heap.size, 0, none⟩ = some (.int .u8 x0) := e1.at_ 0
  have xe1_1 : ((w1.alloc (.cells #[.int .u8 x0, .int .u32 x1, .int .u16 x2, .int .u32 x3, .int .u16 x4, .int .i64 x5, .int .u8 x6, .bool x7, .int .u8 x8] 33))).cell? ⟨w1.heap.size, 1, none⟩ = some (.int .u32 x1) := e1.at_ 1
  have xe1_2 : ((w1.alloc (.cells #[.int .u8 x0, .int .u32 x1, .int .u16 x2, .int .u32 x3, .int .u16 x4, .int .i64 x5, .int .u8 x6, .bool x7, .int .u8 x8] 33))).cell? ⟨w1.heap.size, 2, none⟩ = some (.int .u16 x2) := e1.at_ 2
  have xe1_3 : ((w1.alloc (.cells #[.int .u8 x0, .int .u32 x1, .int .u16 x2, .int .u32 x3, .int .u16 x4, .int .i64 x5, .int .u8 x6, .bool x7, .int .u8 x8] 33))).cell? ⟨w1.heap.size, 3, none⟩ = some (.int .u32 x3) := e1.at_ 3
  have xe1_4 : ((w1.alloc (.cells #[.int .u8 x0, .int .u32 x1, .int .u16 x2, .int .u32 x3, .int .u16 x4, .int .i64 x5, .int .u8 x6, .bool x7, .int .u8 x8] 33))).cell? ⟨w1.heap.size, 4, none⟩ = some (.int .u16 x4) := e1.at_ 4
  have xe1_5 : ((w1.alloc (.cells #[.int .u8 x0, .int .u32 x1, .int .u16 x2, .int .u32 x3, .int .u16 x4, .int .i64 x5, .int .u8 x6, .bool x7, .int .u8 x8] 33))).cell? ⟨w1.heap.size, 5, none⟩ = some (.int .i64 x5) := e1.at_ 5
  have xe1_6 : ((w1.alloc (.cells #[.int .u8 x0, .int .u32 x1, .int .u16 x2, .int .u32 x3, .int .u16 x4, .int .i64 x5, .int .u8 x6, .bool x7, .int .u8 x8] 33))).cell? ⟨w1.heap.size, 6, none⟩ = some (.int .u8 x6) := e1.at_ 6
  have xe1_7 : ((w1.alloc (.cells #[.int .u8 x0, .int .u32 x1, .int .u16 x2, .int .u32 x3, .int .u16 x4, .int .i64 x5, .int .u8 x6, .bool x7, .int .u8 x8] 33))).cell? ⟨w1.heap.size, 7, none⟩ = some (.bool x7) := e1.at_ 7
  have xe1_8 : ((w1.alloc (.cells #[.int .u8 x0, .int .u32 x1, .int .u16 x2, .int .u32 x3, .int .u16 x4, .int .i64 x5, .int .u8 x6, .bool x7, .int .u8 x8] 33))).cell? ⟨w1.heap.size, 8, none⟩ = some (.int .u8 x8) := e1.at_ 8
  clear e1
  go_wp2_with fail
  (try simp only [Exit.inBlock, Exit.then]); refine bodyPost_ret (by simp [results, Tryd.results10, go_sem]; try rfl) rfl ?_
  exact ⟨by first | rfl | (simp; omega), b1⟩

set_option maxRecDepth 100000 in
set_option maxHeartbeats 2000000 in
theorem sm_ask (s : ByteArray) (y x0 x1 x2 x3 x4 x5 x6 x8 r : Int) (x7 : Bool) (w : World) (K0 : Kinds w) (i5 : 0 < s.size) (i4 : (0 : Int) < (s.size : Int)) (hb : 0 ≤ y ∧ y ≤ 255) (e0 : (((s[0]'i5).toNat : Nat) : Int) = y) (q1 : (x0 == 6) = false) (q2 : (x0 == 17) = false) (q3 : (x5 == 3) = false)
    (c1 : ∀ W, Kinds W → Calls Tryd.prog 9 #[.string s] W (Ret (.tuple #[.agg #[.int .u8 x0, .int .u32 x1, .int .u16 x2, .int .u32 x3, .int .u16 x4, .int .i64 x5, .int .u8 x6, .bool x7, .int .u8 x8], .int .i64 r]) W)) :
    Calls Tryd.prog 10 #[.string s] w (Ret (.int .i64 (y % 16 * 4 + 2)) w) := by
  have C1 := hide c1; have KK := hide K0
  clear c1 K0
  go_enter Tryd.func10, Tryd.ntmps10
  go_wp2_with fail
  (with_reducible refine (C1.out _ KK.out).mono ?_)
  rintro e w1 ⟨rfl, b1⟩
  have e1 := Cells.new w1 #[.int .u8 x0, .int .u32 x1, .int .u16 x2, .int .u32 x3, .int .u16 x4, .int .i64 x5, .int .u8 x6, .bool x7, .int .u8 x8] 33
  replace b1 : Below w.heap.size w (w1.alloc (.cells #[.int .u8 x0, .int .u32 x1, .int .u16 x2, .int .u32 x3, .int .u16 x4, .int .i64 x5, .int .u8 x6, .bool x7, .int .u8 x8] 33)) := bstep b1 (fresh_below _ _)
  have xe1_0 : ((w1.alloc (.cells #[.int .u8 x0, .int .u32 x1, .int .u16 x2, .int .u32 x3, .int .u16 x4, .int .i64 x5, .int .u8 x6, .bool x7, .int .u8 x8] 33))).cell? ⟨w1.heap.size, 0, none⟩ = some (.int .u8 x0) := e1.at_ 0
  have xe1_1 : ((w1.alloc (.cells #[.int .u8 x0, .int .u32 x1, .int .u16 x2, .int .u32 x3, .int .u16 x4, .int .i64 x5, .int .u8 x6, .bool x7, .int .u8 x8] 33))).cell? ⟨w1.heap.size, 1, none⟩ = some (.int .u32 x1) := e1.at_ 1
  have xe1_2 : ((w1.alloc (.cells #[.int .u8 x0, .int .u32 x1, .int .u16 x2, .int .u32 x3, .int .u16 x4, .int .i64 x5, .int .u8 x6, .bool x7, .int .u8 x8] 33))).cell? ⟨w1.heap.size, 2, none⟩ = some (.int .u16 x2) := e1.at_ 2
  have xe1_3 : ((w1.alloc (.cells #[.int .u8 x0, .int .u32 x1, .int .u16 x2, .int .u32 x3, .int .u16 x4, .int .i64 x5, .int .u8 x6, .bool x7, .int .u8 x8] 33))).cell? ⟨w1.heap.size, 3, none⟩ = some (.int .u32 x3) := e1.at_ 3
  have xe1_4 : ((w1.alloc (.cells #[.int .u8 x0, .int .u32 x1, .int .u16 x2, .int .u32 x3, .int .u16 x4, .int .i64 x5, .int .u8 x6, .bool x7, .int .u8 x8] 33))).cell? ⟨w1.heap.size, 4, none⟩ = some (.int .u16 x4) := e1.at_ 4
  have xe1_5 : ((w1.alloc (.cells #[.int .u8 x0, .int .u32 x1, .int .u16 x2, .int .u32 x3, .int .u16 x4, .int .i64 x5, .int .u8 x6, .bool x7, .int .u8 x8] 33))).cell? ⟨w1.heap.size, 5, none⟩ = some (.int .i64 x5) := e1.at_ 5
  have xe1_6 : ((w1.alloc (.cells #[.int .u8 x0, .int .u32 x1, .int .u16 x2, .int .u32 x3, .int .u16 x4, .int .i64 x5, .int .u8 x6, .bool x7, .int .u8 x8] 33))).cell? ⟨w1.heap.size, 6, none⟩ = some (.int .u8 x6) := e1.at_ 6
  have xe1_7 : ((w1.alloc (.cells #[.int .u8 x0, .int .u32 x1, .int .u16 x2, .int .u32 x3, .int .u16 x4, .int .i64 x5, .int .u8 x6, .bool x7, .int .u8 x8] 33))).cell? ⟨w1.heap.size, 7, none⟩ = some (.bool x7) := e1.at_ 7
  have xe1_8 : ((w1.alloc (.cells #[.int .u8 x0, .int .u32 x1, .int .u16 x2, .int .u32 x3, .int .u16 x4, .int .i64 x5, .int .u8 x6, .bool x7, .int .u8 x8] 33))).cell? ⟨w1.heap.size, 8, none⟩ = some (.int .u8 x8) := e1.at_ 8
  clear e1
  go_wp2_with fail
  (try simp only [Exit.inBlock, Exit.then]); refine bodyPost_ret (by simp [results, Tryd.results10, go_sem]; try rfl) rfl ?_
  exact ⟨by first | rfl | (simp; omega), b1⟩

theorem sumAt_walk (s : ByteArray) (w : World) (K0 : Kinds w) (hs : s.size ≤ 140737488351232) (h1 : 1 ≤ s.size) :
    Calls Tryd.prog 10 #[.string s] w (Ret (.int .i64 ((sumAtL (seenOf s) (ipOwn (L s)).toNat : Nat) : Int)) w) := by
  have c1 := fun W K => tu_Of s W K hs
  unfold Seen.cells at c1
  have hb := at_bd (L s) 0
  have e0 : (((s[0]'(by omega)).toNat : Nat) : Int) = at_ (L s) 0 := by rw [getElem_L s 0 (by omega)]; rfl
  unfold sumAtL
  have ho : ipOwn (L s) = at_ (L s) 0 % 16 * 4 := rfl
  by_cases p6 : (seenOf s).t.p = 6
  · rw [if_pos p6, show (((ipOwn (L s)).toNat + 16 : Nat) : Int) = at_ (L s) 0 % 16 * 4 + 16 from by omega]
    exact sm_tcp s _ _ _ _ _ _ _ _ _ _ _ w K0 (by omega) (by omega) hb e0 (by simpa using p6) c1
  rw [if_neg p6]
  by_cases p17 : (seenOf s).t.p = 17
  · rw [if_pos p17, show (((ipOwn (L s)).toNat + 6 : Nat) : Int) = at_ (L s) 0 % 16 * 4 + 6 from by omega]
    exact sm_udp s _ _ _ _ _ _ _ _ _ _ _ w K0 (by omega) (by omega) hb e0 (by simpa using p6) (by simpa using p17) c1
  rw [if_neg p17]
  by_cases k3 : (seenOf s).k = 3
  · rw [if_pos k3]
    exact sm_err s _ _ _ _ _ _ _ _ _ _ _ w K0 (by omega) (by omega) hb e0 (by simpa using p6) (by simpa using p17) (by simpa using k3) c1
  · rw [if_neg k3, show (((ipOwn (L s)).toNat + 2 : Nat) : Int) = at_ (L s) 0 % 16 * 4 + 2 from by omega]
    exact sm_ask s _ _ _ _ _ _ _ _ _ _ _ w K0 (by omega) (by omega) hb e0 (by simpa using p6) (by simpa using p17) (by simpa using k3) c1

end Go.Proofs.YtpidgmamollmgaaDoor
end

section
/- RewriteSeen's loop: one round. -/
set_option linter.unusedVariables false
set_option linter.unusedSimpArgs false
namespace Go.Proofs.YtpidgmamollmgaaDoor
open Go.RowKit
attribute [local go_sem] Oper.semAt_some

/-- the first loop's body -/
def loopIn : Code → Option Code
  | .loop c => some c
  | .seq a b => (loopIn a).orElse fun _ => loopIn b
  | .block _ c => loopIn c
  | .scope c => loopIn c
  | .cond _ a b => (loopIn a).orElse fun _ => loopIn b
  | _ => none
noncomputable def seenBody : Code := (Tryd.f3.body.bind loopIn).getD .skip

set_option maxRecDepth 1000000 in
set_option maxHeartbeats 16000000 in
theorem seen_round (S : World → Prop) (n capA capB A B X j : Nat) (own k x0 av bv : Int) (u0 u1 u2 u3 u4 u6 u7 u8 u9 u10 u16 u17 u18 u19 u20 u21 u22 u23 u24 u25 u26 u27 u28 u29 u30 u31 u32 u33 u34 u35 u36 u37 u38 u39 u40 u41 u42 u43 u44 u45 u46 u47 u48 u49 u50 u51 u52 u53 u54 u55 u56 u57 u58 u59 u60 u61 u62 u63 u64 u65 u66 u67 u68 u69 u70 u71 u72 u73 u74 u75 u76 u77 u78 u79 u80 u81 u82 u83 u84 u85 u86 u87 u88 u89 u90 u91 u92 u93 u94 u95 u96 u97 u98 u99 u100 u101 u102 u103 u104 u105 u106 u107 u108 u109 u110 u111 u112 u113 u114 u115 u116 u117 u118 u119 u120 u121 u122 u123 u124 u125 u126 u127 u128 u129 u130 u131 u132 u133 u134 u135 u136 u137 u138 u139 u140 u141 u142 u143 u144 u145 u146 u147 u148 u149 u150 u151 u152 u153 u154 u155 u156 u157 u158 u159 u160 u161 u162 u163 u164 u165 u166 u167 u168 u169 u170 u171 u172 u173 u174 u175 u176 u177 u178 u179 u180 u181 u182 u183 u184 u185 u186 u187 u188 u189 u190 u191 u192 u193 u194 u195 u196 u197 u198 u199 u200 u201 u202 u203 u204 u205 u206 u207 u208 u209 u210 u211 u212 u213 u214 u215 u216 u217 u218 u219 : Value) (wr : World) (K : Act → World → Prop) (Q : Exit → Act → World → Prop)
    (hjn : j < n) (hj : (j : Int) < (n : Int)) (hn : (n : Int) ≤ 140737488351232) (hown : 0 ≤ own ∧ own ≤ 60) (hk : 0 ≤ k ∧ k ≤ 200)
    (cX : wr.cell? ⟨X, 0, none⟩ = some (.int .u8 x0)) (cA : wr.cell? ⟨A, j, none⟩ = some (.int .u8 av)) (cB : wr.cell? ⟨B, j, none⟩ = some (.int .u8 bv))
    (hok : av = bv ∨ (8 ≤ j ∧ j < 20 ∧ j ≠ 9) ∨ ((x0 ≠ 1 ∧ own ≤ (j : Int) ∧ (j : Int) < own + 4) ∨ (x0 = 1 ∧ 0 < k ∧ own + 4 ≤ (j : Int) ∧ (j : Int) < own + 6)) ∨ (k ≠ 0 ∧ ((j : Int) = k ∨ (j : Int) = k + 1)))
    (hS : S wr) (hSd : ∀ W m, S W → S (W.drewN m))
    (hgo : ∀ (u16 u17 u129 u130 u131 u132 u133 u134 u135 u136 u137 u138 u139 u140 u141 u142 u143 u144 u145 u146 u147 u148 u149 u150 u151 u152 u153 u154 u155 u156 u157 u158 u159 u160 u161 u162 u163 u164 u165 u166 u167 u168 u169 u170 u171 u172 u173 u174 u175 u176 u177 u178 u179 u180 u181 u182 u183 u184 u185 u186 u187 u188 u189 u190 u191 u192 u193 u194 u195 u196 u197 u198 u199 u200 u201 u202 u203 u204 u205 u206 u207 u208 u209 u210 u211 u212 u213 : Value) wx, S wx → K ⟨#[u0, u1, u2, u3, u4, .pointer (some ⟨X, 0, none⟩), u6, u7, u8, u9, u10, .slice (some ⟨A, 0, none⟩) n capA, .slice (some ⟨B, 0, none⟩) n capB, .int .i64 own, .int .i64 k, .int .i64 ((j : Int) + 1), u16, u17, u18, u19, u20, u21, u22, u23, u24, u25, u26, u27, u28, u29, u30, u31, u32, u33, u34, u35, u36, u37, u38, u39, u40, u41, u42, u43, u44, u45, u46, u47, u48, u49, u50, u51, u52, u53, u54, u55, u56, u57, u58, u59, u60, u61, u62, u63, u64, u65, u66, u67, u68, u69, u70, u71, u72, u73, u74, u75, u76, u77, u78, u79, u80, u81, u82, u83, u84, u85, u86, u87, u88, u89, u90, u91, u92, u93, u94, u95, u96, u97, u98, u99, u100, u101, u102, u103, u104, u105, u106, u107, u108, u109, u110, u111, u112, u113, u114, u115, u116, u117, u118, u119, u120, u121, u122, u123, u124, u125, u126, u127, u128, u129, u130, u131, u132, u133, u134, u135, u136, u137, u138, u139, u140, u141, u142, u143, u144, u145, u146, u147, u148, u149, u150, u151, u152, u153, u154, u155, u156, u157, u158, u159, u160, u161, u162, u163, u164, u165, u166, u167, u168, u169, u170, u171, u172, u173, u174, u175, u176, u177, u178, u179, u180, u181, u182, u183, u184, u185, u186, u187, u188, u189, u190, u191, u192, u193, u194, u195, u196, u197, u198, u199, u200, u201, u202, u203, u204, u205, u206, u207, u208, u209, u210, u211, u212, u213, u214, u215, u216, u217, u218, u219], []⟩ wx) :
    Code.wp Tryd.prog seenBody (Exit.then K Q) ⟨#[u0, u1, u2, u3, u4, .pointer (some ⟨X, 0, none⟩), u6, u7, u8, u9, u10, .slice (some ⟨A, 0, none⟩) n capA, .slice (some ⟨B, 0, none⟩) n capB, .int .i64 own, .int .i64 k, .int .i64 (j : Int), u16, u17, u18, u19, u20, u21, u22, u23, u24, u25, u26, u27, u28, u29, u30, u31, u32, u33, u34, u35, u36, u37, u38, u39, u40, u41, u42, u43, u44, u45, u46, u47, u48, u49, u50, u51, u52, u53, u54, u55, u56, u57, u58, u59, u60, u61, u62, u63, u64, u65, u66, u67, u68, u69, u70, u71, u72, u73, u74, u75, u76, u77, u78, u79, u80, u81, u82, u83, u84, u85, u86, u87, u88, u89, u90, u91, u92, u93, u94, u95, u96, u97, u98, u99, u100, u101, u102, u103, u104, u105, u106, u107, u108, u109, u110, u111, u112, u113, u114, u115, u116, u117, u118, u119, u120, u121, u122, u123, u124, u125, u126, u127, u128, u129, u130, u131, u132, u133, u134, u135, u136, u137, u138, u139, u140, u141, u142, u143, u144, u145, u146, u147, u148, u149, u150, u151, u152, u153, u154, u155, u156, u157, u158, u159, u160, u161, u162, u163, u164, u165, u166, u167, u168, u169, u170, u171, u172, u173, u174, u175, u176, u177, u178, u179, u180, u181, u182, u183, u184, u185, u186, u187, u188, u189, u190, u191, u192, u193, u194, u195, u196, u197, u198, u199, u200, u201, u202, u203, u204, u205, u206, u207, u208, u209, u210, u211, u212, u213, u214, u215, u216, u217, u218, u219], []⟩ wr := by
  have HG := hide hgo; have HOK := hide hok; have HS := hide hS; have HD := hide hSd; have HN := hide hjn; have HH := hide hn
  clear hgo hok hS hSd hjn hn
  conv => arg 2; whnf
  have w1 : IntKind.i64.wrap ((j : Int) + 1) = (j : Int) + 1 := IntWalk.i64_in _ (by have := HH.out; omega)
  have w4 : IntKind.i64.wrap (own + 4) = own + 4 := IntWalk.i64_in _ (by omega)
  have w6 : IntKind.i64.wrap (own + 6) = own + 6 := IntWalk.i64_in _ (by omega)
  have wk : IntKind.i64.wrap (k + 1) = k + 1 := IntWalk.i64_in _ (by omega)
  have HO := hide hown; have HK := hide hk
  clear hown hk
  go_upto_region 23 with fail
  go_cut [16] from 129 to 213 (fun s16 wx => s16 = .bool (decide (8 ≤ j ∧ j < 20 ∧ j ≠ 9)) ∧ wr = wx)
  case first =>
    go_wp2_with fail
    all_goals
      go_meet
      refine ⟨congrArg Value.bool (Bool.eq_iff_iff.2 ?_), rfl⟩
      simp only [bne_iff_ne, ne_eq, decide_eq_true_eq, Bool.false_eq_true, false_iff, true_iff]
      omega
  case rest =>
    obtain ⟨rfl, rfl⟩ := hcut
    obtain ⟨hd, hhd⟩ : ∃ hd, hd = decide (8 ≤ j ∧ j < 20 ∧ j ≠ 9) := ⟨_, rfl⟩
    rw [← hhd]
    have HHD := hide hhd
    clear hhd
    go_upto_region 24 with fail
    go_cut [17] from 129 to 213 (fun s17 wx => s17 = .bool (decide ((x0 ≠ 1 ∧ own ≤ (j : Int) ∧ (j : Int) < own + 4) ∨ (x0 = 1 ∧ 0 < k ∧ own + 4 ≤ (j : Int) ∧ (j : Int) < own + 6))) ∧ wr = wx)
    case first =>
      go_wp2_with fail
      all_goals
        go_meet
        clear HG HOK HS HD HN HH w1 wk HHD cX cA cB
        refine ⟨congrArg Value.bool (Bool.eq_iff_iff.2 ?_), rfl⟩
        simp only [Bool.and_eq_true, bne_iff_ne, beq_iff_eq, ne_eq, decide_eq_true_eq, Bool.false_eq_true, false_iff, true_iff]
        omega
    case rest =>
      obtain ⟨rfl, rfl⟩ := hcut
      obtain ⟨pt, hpt⟩ : ∃ pt, pt = decide ((x0 ≠ 1 ∧ own ≤ (j : Int) ∧ (j : Int) < own + 4) ∨ (x0 = 1 ∧ 0 < k ∧ own + 4 ≤ (j : Int) ∧ (j : Int) < own + 6)) := ⟨_, rfl⟩
      rw [← hpt]
      have HPT := hide hpt
      clear hpt w4 w6
      have leaf : (av != bv) = false ∨ ((av != bv) = true ∧ hd = true) ∨ ((av != bv) = true ∧ hd = false ∧ pt = true) ∨ ((av != bv) = true ∧ hd = false ∧ pt = false ∧ (k == 0) = false ∧ ((j : Int) != k) = false) ∨ ((av != bv) = true ∧ hd = false ∧ pt = false ∧ (k == 0) = false ∧ ((j : Int) != k) = true ∧ ((j : Int) != k + 1) = false) := by
        have h := HOK.out; have h1 := HHD.out; have h2 := HPT.out
        by_cases e : av = bv
        · exact Or.inl (by simpa using e)
        · right
          have e' : (av != bv) = true := by simpa using e
          by_cases d1 : (8 ≤ j ∧ j < 20 ∧ j ≠ 9)
          · exact Or.inl ⟨e', by rw [h1]; exact decide_eq_true d1⟩
          · right
            rw [decide_eq_false d1] at h1
            by_cases d2 : ((x0 ≠ 1 ∧ own ≤ (j : Int) ∧ (j : Int) < own + 4) ∨ (x0 = 1 ∧ 0 < k ∧ own + 4 ≤ (j : Int) ∧ (j : Int) < own + 6))
            · exact Or.inl ⟨e', h1, by rw [h2]; exact decide_eq_true d2⟩
            · right
              rw [decide_eq_false d2] at h2
              rcases h with h | h | h | h
              · exact absurd h e
              · exact absurd h d1
              · exact absurd h d2
              · by_cases d3 : (j : Int) = k
                · exact Or.inl ⟨e', h1, h2, by simpa using h.1, by simpa using d3⟩
                · exact Or.inr ⟨e', h1, h2, by simpa using h.1, by simpa using d3, by have := h.2; simp; omega⟩
      rcases leaf with h1 | ⟨h1, rfl⟩ | ⟨h1, rfl, rfl⟩ | ⟨h1, rfl, rfl, h4, h5⟩ | ⟨h1, rfl, rfl, h4, h5, h6⟩
      all_goals
        go_upto_region 25 with fail
        go_quiet (fail)
        go_wp2_with fail
        refine HG.out _ _ _ _ _ _ _ _ _ _ _ _ _ _ _ _ _ _ _ _ _ _ _ _ _ _ _ _ _ _ _ _ _ _ _ _ _ _ _ _ _ _ _ _ _ _ _ _ _ _ _ _ _ _ _ _ _ _ _ _ _ _ _ _ _ _ _ _ _ _ _ _ _ _ _ _ _ _ _ _ _ _ _ _ _ _ _ _ ?_
        exact HD.out _ _ HS.out
end Go.Proofs.YtpidgmamollmgaaDoor
end
