/- Several texts of this claim, one behind the other. -/
import Derived.Test.YtpidgmamollmgaaDoorM25
import Derived.Test.YtpidgmamollmgaaDoorM32

section
/- taken, sumAt walked. -/
set_option linter.unusedVariables false
set_option linter.unusedSimpArgs false
namespace Go.Proofs.YtpidgmamollmgaaDoor
open Go.RowKit
attribute [local go_sem] Oper.semAt_some

set_option maxRecDepth 100000 in
set_option maxHeartbeats 2000000 in
theorem tk_why (s : ByteArray) (n x0 x1 x2 x3 x4 x5 x6 x8 r : Int) (x7 : Bool) (w : World) (K0 : Kinds w) (q1 : (r == 0) = false)
    (c1 : ∀ W, Kinds W → Calls Tryd.prog 9 #[.string s] W (Ret (.tuple #[.agg #[.int .u8 x0, .int .u32 x1, .int .u16 x2, .int .u32 x3, .int .u16 x4, .int .i64 x5, .int .u8 x6, .bool x7, .int .u8 x8], .int .i64 r]) W)) :
    Calls Tryd.prog 7 #[.string s, .int .u8 n] w (Ret (.tuple #[.agg #[.int .u8 x0, .int .u32 x1, .int .u16 x2, .int .u32 x3, .int .u16 x4, .int .i64 x5, .int .u8 x6, .bool x7, .int .u8 x8], .bool false]) w) := by
  have C1 := hide c1; have KK := hide K0
  clear c1 K0
  go_enter Tryd.func7, Tryd.ntmps7
  have d0 := Cells.new w #[.int .u8 0, .int .u32 0, .int .u16 0, .int .u32 0, .int .u16 0, .int .i64 0, .int .u8 0, .bool false, .int .u8 0] 33
  go_wp2_with fail
  (with_reducible refine (C1.out _ (KK.out.below (fresh_below _ _))).mono ?_)
  rintro e w1 ⟨rfl, b1⟩
  have d1 := Cells.alloc (Cells.below b1 d0) (.cells #[.int .u8 x0, .int .u32 x1, .int .u16 x2, .int .u32 x3, .int .u16 x4, .int .i64 x5, .int .u8 x6, .bool x7, .int .u8 x8] 33)
  have e1 := Cells.new w1 #[.int .u8 x0, .int .u32 x1, .int .u16 x2, .int .u32 x3, .int .u16 x4, .int .i64 x5, .int .u8 x6, .bool x7, .int .u8 x8] 33
  replace b1 : Below w.heap.size w (w1.alloc (.cells #[.int .u8 x0, .int .u32 x1, .int .u16 x2, .int .u32 x3, .int .u16 x4, .int .i64 x5, .int .u8 x6, .bool x7, .int .u8 x8] 33)) := bstep (bstep (fresh_below _ _) b1) (fresh_below _ _)
  clear d0
  have xd1_0 : ((w1.alloc (.cells #[.int .u8 x0, .int .u32 x1, .int .u16 x2, .int .u32 x3, .int .u16 x4, .int .i64 x5, .int .u8 x6, .bool x7, .int .u8 x8] 33))).cell? ⟨w.heap.size, 0, none⟩ = some (.int .u8 0) := d1.at_ 0
  have xd1_1 : ((w1.alloc (.cells #[.int .u8 x0, .int .u32 x1, .int .u16 x2, .int .u32 x3, .int .u16 x4, .int .i64 x5, .int .u8 x6, .bool x7, .int .u8 x8] 33))).cell? ⟨w.heap.size, 1, none⟩ = some (.int .u32 0) := d1.at_ 1
  have xd1_2 : ((w1.alloc (.cells #[.int .u8 x0, .int .u32 x1, .int .u16 x2, .int .u32 x3, .int .u16 x4, .int .i64 x5, .int .u8 x6, .bool x7, .int .u8 x8] 33))).cell? ⟨w.heap.size, 2, none⟩ = some (.int .u16 0) := d1.at_ 2
  have xd1_3 : ((w1.alloc (.cells #[.int .u8 x0, .int .u32 x1, .int .u16 x2, .int .u32 x3, .int .u16 x4, .int .i64 x5, .int .u8 x6, .bool x7, .int .u8 x8] 33))).cell? ⟨w.heap.size, 3, none⟩ = some (.int .u32 0) := d1.at_ 3
  have xd1_4 : ((w1.alloc (.cells #[.int .u8 x0, .int .u32 x1, .int .u16 x2, .int .u32 x3, .int .u16 x4, .int .i64 x5, .int .u8 x6, .bool x7, .int .u8 x8] 33))).cell? ⟨w.heap.size, 4, none⟩ = some (.int .u16 0) := d1.at_ 4
  have xd1_5 : ((w1.alloc (.cells #[.int .u8 x0, .int .u32 x1, .int .u16 x2, .int .u32 x3, .int .u16 x4, .int .i64 x5, .int .u8 x6, .bool x7, .int .u8 x8] 33))).cell? ⟨w.heap.size, 5, none⟩ = some (.int .i64 0) := d1.at_ 5
  have xd1_6 : ((w1.alloc (.cells #[.int .u8 x0, .int .u32 x1, .int .u16 x2, .int .u32 x3, .int .u16 x4, .int .i64 x5, .int .u8 x6, .bool x7, .int .u8 x8] 33))).cell? ⟨w.heap.size, 6, none⟩ = some (.int .u8 0) := d1.at_ 6
  have xd1_7 : ((w1.alloc (.cells #[.int .u8 x0, .int .u32 x1, .int .u16 x2, .int .u32 x3, .int .u16 x4, .int .i64 x5, .int .u8 x6, .bool x7, .int .u8 x8] 33))).cell? ⟨w.heap.size, 7, none⟩ = some (.bool false) := d1.at_ 7
  have xd1_8 : ((w1.alloc (.cells #[.int .u8 x0, .int .u32 x1, .int .u16 x2, .int .u32 x3, .int .u16 x4, .int .i64 x5, .int .u8 x6, .bool x7, .int .u8 x8] 33))).cell? ⟨w.heap.size, 8, none⟩ = some (.int .u8 0) := d1.at_ 8
  have yd1_0 : ((w1.alloc (.cells #[.int .u8 x0, .int .u32 x1, .int .u16 x2, .int .u32 x3, .int .u16 x4, .int .i64 x5, .int .u8 x6, .bool x7, .int .u8 x8] 33))).frozen? ⟨w.heap.size, 0, none⟩ = false := d1.free 0
  have yd1_1 : ((w1.alloc (.cells #[.int .u8 x0, .int .u32 x1, .int .u16 x2, .int .u32 x3, .int .u16 x4, .int .i64 x5, .int .u8 x6, .bool x7, .int .u8 x8] 33))).frozen? ⟨w.heap.size, 1, none⟩ = false := d1.free 1
  have yd1_2 : ((w1.alloc (.cells #[.int .u8 x0, .int .u32 x1, .int .u16 x2, .int .u32 x3, .int .u16 x4, .int .i64 x5, .int .u8 x6, .bool x7, .int .u8 x8] 33))).frozen? ⟨w.heap.size, 2, none⟩ = false := d1.free 2
  have yd1_3 : ((w1.alloc (.cells #[.int .u8 x0, .int .u32 x1, .int .u16 x2, .int .u32 x3, .int .u16 x4, .int .i64 x5, .int .u8 x6, .bool x7, .int .u8 x8] 33))).frozen? ⟨w.heap.size, 3, none⟩ = false := d1.free 3
  have yd1_4 : ((w1.alloc (.cells #[.int .u8 x0, .int .u32 x1, .int .u16 x2, .int .u32 x3, .int .u16 x4, .int .i64 x5, .int .u8 x6, .bool x7, .int .u8 x8] 33))).frozen? ⟨w.heap.size, 4, none⟩ = false := d1.free 4
  have yd1_5 : ((w1.alloc (.cells #[.int .u8 x0, .int .u32 x1, .int .u16 x2, .int .u32 x3, .int .u16 x4, .int .i64 x5, .int .u8 x6, .bool x7, .int .u8 x8] 33))).frozen? ⟨w.heap.size, 5, none⟩ = false := d1.free 5
  have yd1_6 : ((w1.alloc (.cells #[.int .u8 x0, .int .u32 x1, .int .u16 x2, .int .u32 x3, .int .u16 x4, .int .i64 x5, .int .u8 x6, .bool x7, .int .u8 x8] 33))).frozen? ⟨w.heap.size, 6, none⟩ = false := d1.free 6
  have yd1_7 : ((w1.alloc (.cells #[.int .u8 x0, .int .u32 x1, .int .u16 x2, .int .u32 x3, .int .u16 x4, .int .i64 x5, .int .u8 x6, .bool x7, .int .u8 x8] 33))).frozen? ⟨w.heap.size, 7, none⟩ = false := d1.free 7
  have yd1_8 : ((w1.alloc (.cells #[.int .u8 x0, .int .u32 x1, .int .u16 x2, .int .u32 x3, .int .u16 x4, .int .i64 x5, .int .u8 x6, .bool x7, .int .u8 x8] 33))).frozen? ⟨w.heap.size, 8, none⟩ = false := d1.free 8
  have xe1_0 : ((w1.alloc (.cells #[.int .u8 x0, .int .u32 x1, .int .u16 x2, .int .u32 x3, .int .u16 x4, .int .i64 x5, .int .u8 x6, .bool x7, .int .u8 x8] 33))).cell? ⟨w1.heap.size, 0, none⟩ = some (.int .u8 x0) := e1.at_ 0
  have xe1_1 : ((w1.alloc (.cells #[.int .u8 x0, .int .u32 x1, .int .u16 x2, .int .u32 x3, .int .u16 x4, .int .i64 x5, .int .u8 x6, .bool x7, .int .u8 x8] 33))).cell? ⟨w1.heap.size, 1, none⟩ = some (.int .u32 x1) := e1.at_ 1
  have xe1_2 : ((w1.alloc (.cells #[.int .u8 x0, .int .u32 x1, .int .u16 x2, .int .u32 x3, .int .u16 x4, .int .i64 x5, .int .u8 x6, .bool x7, .int .u8 x8] 33))).cell? ⟨w1.heap.size, 2, none⟩ = some (.int .u16 x2) := e1.at_ 2
  have xe1_3 : ((w1.alloc (.cells #[.int .u8 x0, .int .u32 x1, .int .u16 x2, .int .u32 x3, .int .u16 x4, .int .i64 x5, .int .u8 x6, .bool x7, .int .u8 x8] 33))).cell? ⟨w1.heap.size, 3, none⟩ = some (.int .u32 x3) := e1.at_ 3
  have xe1_4 : ((w1.alloc (.cells #[.int .u8 x0, .int .u32 x1, .int .u16 x2, .int .u32 x3, .int .u16 x4, .int .i64 x5, .int .u8 x6, .bool x7, .int .u8 x8] 33))).cell? ⟨w1.heap.size, 4, none⟩ = some (.int .u16 x4) := e1.at_ 4
  have xe1_5 : ((w1.alloc (.cells #[.int .u8 x0, .int .u32 x1, .int .u16 x2, .int .u32 x3, .int .u16 x4, .int .i64 x5, .int .u8 x6, .bool x7, .int .u8 x8] 33))).cell? ⟨w1.heap.size, 5, none⟩ = some (.int .i64 x5) := e1.at_ 5
  have xe1_6 : ((w1.alloc (.cells #[.int .u8 x0, .int .u32 x1, .int .u16 x2, .int .u32 x3, .int .u16 x4, .int .i64 x5, .int .u8 x6, .bool x7, .int .u8 x8] 33))).cell? ⟨w1.heap.size, 6, none⟩ = some (.int .u8 x6) := e1.at_ 6
  have xe1_7 : ((w1.alloc (.cells #[.int .u8 x0, .int .u32 x1, .int .u16 x2, .int .u32 x3, .int .u16 x4, .int .i64 x5, .int .u8 x6, .bool x7, .int .u8 x8] 33))).cell? ⟨w1.heap.size, 7, none⟩ = some (.bool x7) := e1.at_ 7
  have xe1_8 : ((w1.alloc (.cells #[.int .u8 x0, .int .u32 x1, .int .u16 x2, .int .u32 x3, .int .u16 x4, .int .i64 x5, .int .u8 x6, .bool x7, .int .u8 x8] 33))).cell? ⟨w1.heap.size, 8, none⟩ = some (.int .u8 x8) := e1.at_ 8
  have D1 := hide d1; have B1 := hide b1
  clear d1 b1 e1
  go_wp2_with fail
  have d1 := D1.out; have b1 := B1.out
  generalize w1.alloc (.cells #[.int .u8 x0, .int .u32 x1, .int .u16 x2, .int .u32 x3, .int .u16 x4, .int .i64 x5, .int .u8 x6, .bool x7, .int .u8 x8] 33) = W at *
  have r5 := (Cells.put9 d1 (.int .u8 x0) (.int .u32 x1) (.int .u16 x2) (.int .u32 x3) (.int .u16 x4) (.int .i64 x5) (.int .u8 x6) (.bool x7) (.int .u8 x8))
  have b5 := (Below.put9 b1 (b := w.heap.size) (by first | exact Nat.le_refl _ | omega) (.int .u8 x0) (.int .u32 x1) (.int .u16 x2) (.int .u32 x3) (.int .u16 x4) (.int .i64 x5) (.int .u8 x6) (.bool x7) (.int .u8 x8))
  have HR5 := hide r5; have HB5 := hide b5
  clear r5 b5 d1
  generalize (((((((((W.setCell ⟨w.heap.size, 0, none⟩ (.int .u8 x0)).setCell ⟨w.heap.size, 1, none⟩ (.int .u32 x1)).setCell ⟨w.heap.size, 2, none⟩ (.int .u16 x2)).setCell ⟨w.heap.size, 3, none⟩ (.int .u32 x3)).setCell ⟨w.heap.size, 4, none⟩ (.int .u16 x4)).setCell ⟨w.heap.size, 5, none⟩ (.int .i64 x5)).setCell ⟨w.heap.size, 6, none⟩ (.int .u8 x6)).setCell ⟨w.heap.size, 7, none⟩ (.bool x7)).setCell ⟨w.heap.size, 8, none⟩ (.int .u8 x8)) = W5 at *
  have r5 := HR5.out; have b5 := HB5.out
  clear HR5 HB5
  have xr5_0 : W5.cell? ⟨w.heap.size, 0, none⟩ = some (.int .u8 x0) := r5.at_ 0
  have xr5_1 : W5.cell? ⟨w.heap.size, 1, none⟩ = some (.int .u32 x1) := r5.at_ 1
  have xr5_2 : W5.cell? ⟨w.heap.size, 2, none⟩ = some (.int .u16 x2) := r5.at_ 2
  have xr5_3 : W5.cell? ⟨w.heap.size, 3, none⟩ = some (.int .u32 x3) := r5.at_ 3
  have xr5_4 : W5.cell? ⟨w.heap.size, 4, none⟩ = some (.int .u16 x4) := r5.at_ 4
  have xr5_5 : W5.cell? ⟨w.heap.size, 5, none⟩ = some (.int .i64 x5) := r5.at_ 5
  have xr5_6 : W5.cell? ⟨w.heap.size, 6, none⟩ = some (.int .u8 x6) := r5.at_ 6
  have xr5_7 : W5.cell? ⟨w.heap.size, 7, none⟩ = some (.bool x7) := r5.at_ 7
  have xr5_8 : W5.cell? ⟨w.heap.size, 8, none⟩ = some (.int .u8 x8) := r5.at_ 8
  (try simp only [Exit.inBlock, Exit.then]); refine bodyPost_ret (by simp [results, Tryd.results7, go_sem, *]; try rfl) rfl ?_
  first | exact ⟨rfl, b5⟩ | exact ⟨by rw [decide_eq_false (by omega)], b5⟩

set_option maxRecDepth 100000 in
set_option maxHeartbeats 2000000 in
theorem tk_ttl (s : ByteArray) (n x0 x1 x2 x3 x4 x5 x6 x8 r : Int) (x7 : Bool) (w : World) (K0 : Kinds w) (q2 : ¬ n < x8)
    (c1 : ∀ W, Kinds W → Calls Tryd.prog 9 #[.string s] W (Ret (.tuple #[.agg #[.int .u8 x0, .int .u32 x1, .int .u16 x2, .int .u32 x3, .int .u16 x4, .int .i64 x5, .int .u8 x6, .bool x7, .int .u8 x8], .int .i64 0]) W)) :
    Calls Tryd.prog 7 #[.string s, .int .u8 n] w (Ret (.tuple #[.agg #[.int .u8 x0, .int .u32 x1, .int .u16 x2, .int .u32 x3, .int .u16 x4, .int .i64 x5, .int .u8 x6, .bool x7, .int .u8 x8], .bool false]) w) := by
  have C1 := hide c1; have KK := hide K0
  clear c1 K0
  go_enter Tryd.func7, Tryd.ntmps7
  have d0 := Cells.new w #[.int .u8 0, .int .u32 0, .int .u16 0, .int .u32 0, .int .u16 0, .int .i64 0, .int .u8 0, .bool false, .int .u8 0] 33
  go_wp2_with fail
  (with_reducible refine (C1.out _ (KK.out.below (fresh_below _ _))).mono ?_)
  rintro e w1 ⟨rfl, b1⟩
  have d1 := Cells.alloc (Cells.below b1 d0) (.cells #[.int .u8 x0, .int .u32 x1, .int .u16 x2, .int .u32 x3, .int .u16 x4, .int .i64 x5, .int .u8 x6, .bool x7, .int .u8 x8] 33)
  have e1 := Cells.new w1 #[.int .u8 x0, .int .u32 x1, .int .u16 x2, .int .u32 x3, .int .u16 x4, .int .i64 x5, .int .u8 x6, .bool x7, .int .u8 x8] 33
  replace b1 : Below w.heap.size w (w1.alloc (.cells #[.int .u8 x0, .int .u32 x1, .int .u16 x2, .int .u32 x3, .int .u16 x4, .int .i64 x5, .int .u8 x6, .bool x7, .int .u8 x8] 33)) := bstep (bstep (fresh_below _ _) b1) (fresh_below _ _)
  clear d0
  have xd1_0 : ((w1.alloc (.cells #[.int .u8 x0, .int .u32 x1, .int .u16 x2, .int .u32 x3, .int .u16 x4, .int .i64 x5, .int .u8 x6, .bool x7, .int .u8 x8] 33))).cell? ⟨w.heap.size, 0, none⟩ = some (.int .u8 0) := d1.at_ 0
  have xd1_1 : ((w1.alloc (.cells #[.int .u8 x0, .int .u32 x1, .int .u16 x2, .int .u32 x3, .int .u16 x4, .int .i64 x5, .int .u8 x6, .bool x7, .int .u8 x8] 33))).cell? ⟨w.heap.size, 1, none⟩ = some (.int .u32 0) := d1.at_ 1
  have xd1_2 : ((w1.alloc (.cells #[.int .u8 x0, .int .u32 x1, .int .u16 x2, .int .u32 x3, .int .u16 x4, .int .i64 x5, .int .u8 x6, .bool x7, .int .u8 x8] 33))).cell? ⟨w.heap.size, 2, none⟩ = some (.int .u16 0) := d1.at_ 2
  have xd1_3 : ((w1.alloc (.cells #[.int .u8 x0, .int .u32 x1, .int .u16 x2, .int .u32 x3, .int .u16 x4, .int .i64 x5, .int .u8 x6, .bool x7, .int .u8 x8] 33))).cell? ⟨w.heap.size, 3, none⟩ = some (.int .u32 0) := d1.at_ 3
  have xd1_4 : ((w1.alloc (.cells #[.int .u8 x0, .int .u32 x1, .int .u16 x2, .int .u32 x3, .int .u16 x4, .int .i64 x5, .int .u8 x6, .bool x7, .int .u8 x8] 33))).cell? ⟨w.heap.size, 4, none⟩ = some (.int .u16 0) := d1.at_ 4
  have xd1_5 : ((w1.alloc (.cells #[.int .u8 x0, .int .u32 x1, .int .u16 x2, .int .u32 x3, .int .u16 x4, .int .i64 x5, .int .u8 x6, .bool x7, .int .u8 x8] 33))).cell? ⟨w.heap.size, 5, none⟩ = some (.int .i64 0) := d1.at_ 5
  have xd1_6 : ((w1.alloc (.cells #[.int .u8 x0, .int .u32 x1, .int .u16 x2, .int .u32 x3, .int .u16 x4, .int .i64 x5, .int .u8 x6, .bool x7, .int .u8 x8] 33))).cell? ⟨w.heap.size, 6, none⟩ = some (.int .u8 0) := d1.at_ 6
  have xd1_7 : ((w1.alloc (.cells #[.int .u8 x0, .int .u32 x1, .int .u16 x2, .int .u32 x3, .int .u16 x4, .int .i64 x5, .int .u8 x6, .bool x7, .int .u8 x8] 33))).cell? ⟨w.heap.size, 7, none⟩ = some (.bool false) := d1.at_ 7
  have xd1_8 : ((w1.alloc (.cells #[.int .u8 x0, .int .u32 x1, .int .u16 x2, .int .u32 x3, .int .u16 x4, .int .i64 x5, .int .u8 x6, .bool x7, .int .u8 x8] 33))).cell? ⟨w.heap.size, 8, none⟩ = some (.int .u8 0) := d1.at_ 8
  have yd1_0 : ((w1.alloc (.cells #[.int .u8 x0, .int .u32 x1, .int .u16 x2, .int .u32 x3, .int .u16 x4, .int .i64 x5, .int .u8 x6, .bool x7, .int .u8 x8] 33))).frozen? ⟨w.heap.size, 0, none⟩ = false := d1.free 0
  have yd1_1 : ((w1.alloc (.cells #[.int .u8 x0, .int .u32 x1, .int .u16 x2, .int .u32 x3, .int .u16 x4, .int .i64 x5, .int .u8 x6, .bool x7, .int .u8 x8] 33))).frozen? ⟨w.heap.size, 1, none⟩ = false := d1.free 1
  have yd1_2 : ((w1.alloc (.cells #[.int .u8 x0, .int .u32 x1, .int .u16 x2, .int .u32 x3, .int .u16 x4, .int .i64 x5, .int .u8 x6, .bool x7, .int .u8 x8] 33))).frozen? ⟨w.heap.size, 2, none⟩ = false := d1.free 2
  have yd1_3 : ((w1.alloc (.cells #[.int .u8 x0, .int .u32 x1, .int .u16 x2, .int .u32 x3, .int .u16 x4, .int .i64 x5, .int .u8 x6, .bool x7, .int .u8 x8] 33))).frozen? ⟨w.heap.size, 3, none⟩ = false := d1.free 3
  have yd1_4 : ((w1.alloc (.cells #[.int .u8 x0, .int .u32 x1, .int .u16 x2, .int .u32 x3, .int .u16 x4, .int .i64 x5, .int .u8 x6, .bool x7, .int .u8 x8] 33))).frozen? ⟨w.heap.size, 4, none⟩ = false := d1.free 4
  have yd1_5 : ((w1.alloc (.cells #[.int .u8 x0, .int .u32 x1, .int .u16 x2, .int .u32 x3, .int .u16 x4, .int .i64 x5, .int .u8 x6, .bool x7, .int .u8 x8] 33))).frozen? ⟨w.heap.size, 5, none⟩ = false := d1.free 5
  have yd1_6 : ((w1.alloc (.cells #[.int .u8 x0, .int .u32 x1, .int .u16 x2, .int .u32 x3, .int .u16 x4, .int .i64 x5, .int .u8 x6, .bool x7, .int .u8 x8] 33))).frozen? ⟨w.heap.size, 6, none⟩ = false := d1.free 6
  have yd1_7 : ((w1.alloc (.cells #[.int .u8 x0, .int .u32 x1, .int .u16 x2, .int .u32 x3, .int .u16 x4, .int .i64 x5, .int .u8 x6, .bool x7, .int .u8 x8] 33))).frozen? ⟨w.heap.size, 7, none⟩ = false := d1.free 7
  have yd1_8 : ((w1.alloc (.cells #[.int .u8 x0, .int .u32 x1, .int .u16 x2, .int .u32 x3, .int .u16 x4, .int .i64 x5, .int .u8 x6, .bool x7, .int .u8 x8] 33))).frozen? ⟨w.heap.size, 8, none⟩ = false := d1.free 8
  have xe1_0 : ((w1.alloc (.cells #[.int .u8 x0, .int .u32 x1, .int .u16 x2, .int .u32 x3, .int .u16 x4, .int .i64 x5, .int .u8 x6, .bool x7, .int .u8 x8] 33))).cell? ⟨w1.heap.size, 0, none⟩ = some (.int .u8 x0) := e1.at_ 0
  have xe1_1 : ((w1.alloc (.cells #[.int .u8 x0, .int .u32 x1, .int .u16 x2, .int .u32 x3, .int .u16 x4, .int .i64 x5, .int .u8 x6, .bool x7, .int .u8 x8] 33))).cell? ⟨w1.heap.size, 1, none⟩ = some (.int .u32 x1) := e1.at_ 1
  have xe1_2 : ((w1.alloc (.cells #[.int .u8 x0, .int .u32 x1, .int .u16 x2, .int .u32 x3, .int .u16 x4, .int .i64 x5, .int .u8 x6, .bool x7, .int .u8 x8] 33))).cell? ⟨w1.heap.size, 2, none⟩ = some (.int .u16 x2) := e1.at_ 2
  have xe1_3 : ((w1.alloc (.cells #[.int .u8 x0, .int .u32 x1, .int .u16 x2, .int .u32 x3, .int .u16 x4, .int .i64 x5, .int .u8 x6, .bool x7, .int .u8 x8] 33))).cell? ⟨w1.heap.size, 3, none⟩ = some (.int .u32 x3) := e1.at_ 3
  have xe1_4 : ((w1.alloc (.cells #[.int .u8 x0, .int .u32 x1, .int .u16 x2, .int .u32 x3, .int .u16 x4, .int .i64 x5, .int .u8 x6, .bool x7, .int .u8 x8] 33))).cell? ⟨w1.heap.size, 4, none⟩ = some (.int .u16 x4) := e1.at_ 4
  have xe1_5 : ((w1.alloc (.cells #[.int .u8 x0, .int .u32 x1, .int .u16 x2, .int .u32 x3, .int .u16 x4, .int .i64 x5, .int .u8 x6, .bool x7, .int .u8 x8] 33))).cell? ⟨w1.heap.size, 5, none⟩ = some (.int .i64 x5) := e1.at_ 5
  have xe1_6 : ((w1.alloc (.cells #[.int .u8 x0, .int .u32 x1, .int .u16 x2, .int .u32 x3, .int .u16 x4, .int .i64 x5, .int .u8 x6, .bool x7, .int .u8 x8] 33))).cell? ⟨w1.heap.size, 6, none⟩ = some (.int .u8 x6) := e1.at_ 6
  have xe1_7 : ((w1.alloc (.cells #[.int .u8 x0, .int .u32 x1, .int .u16 x2, .int .u32 x3, .int .u16 x4, .int .i64 x5, .int .u8 x6, .bool x7, .int .u8 x8] 33))).cell? ⟨w1.heap.size, 7, none⟩ = some (.bool x7) := e1.at_ 7
  have xe1_8 : ((w1.alloc (.cells #[.int .u8 x0, .int .u32 x1, .int .u16 x2, .int .u32 x3, .int .u16 x4, .int .i64 x5, .int .u8 x6, .bool x7, .int .u8 x8] 33))).cell? ⟨w1.heap.size, 8, none⟩ = some (.int .u8 x8) := e1.at_ 8
  have D1 := hide d1; have B1 := hide b1
  clear d1 b1 e1
  go_wp2_with fail
  have d1 := D1.out; have b1 := B1.out
  generalize w1.alloc (.cells #[.int .u8 x0, .int .u32 x1, .int .u16 x2, .int .u32 x3, .int .u16 x4, .int .i64 x5, .int .u8 x6, .bool x7, .int .u8 x8] 33) = W at *
  have r5 := (Cells.put9 d1 (.int .u8 x0) (.int .u32 x1) (.int .u16 x2) (.int .u32 x3) (.int .u16 x4) (.int .i64 x5) (.int .u8 x6) (.bool x7) (.int .u8 x8))
  have b5 := (Below.put9 b1 (b := w.heap.size) (by first | exact Nat.le_refl _ | omega) (.int .u8 x0) (.int .u32 x1) (.int .u16 x2) (.int .u32 x3) (.int .u16 x4) (.int .i64 x5) (.int .u8 x6) (.bool x7) (.int .u8 x8))
  have HR5 := hide r5; have HB5 := hide b5
  clear r5 b5 d1
  generalize (((((((((W.setCell ⟨w.heap.size, 0, none⟩ (.int .u8 x0)).setCell ⟨w.heap.size, 1, none⟩ (.int .u32 x1)).setCell ⟨w.heap.size, 2, none⟩ (.int .u16 x2)).setCell ⟨w.heap.size, 3, none⟩ (.int .u32 x3)).setCell ⟨w.heap.size, 4, none⟩ (.int .u16 x4)).setCell ⟨w.heap.size, 5, none⟩ (.int .i64 x5)).setCell ⟨w.heap.size, 6, none⟩ (.int .u8 x6)).setCell ⟨w.heap.size, 7, none⟩ (.bool x7)).setCell ⟨w.heap.size, 8, none⟩ (.int .u8 x8)) = W5 at *
  have r5 := HR5.out; have b5 := HB5.out
  clear HR5 HB5
  have xr5_0 : W5.cell? ⟨w.heap.size, 0, none⟩ = some (.int .u8 x0) := r5.at_ 0
  have xr5_1 : W5.cell? ⟨w.heap.size, 1, none⟩ = some (.int .u32 x1) := r5.at_ 1
  have xr5_2 : W5.cell? ⟨w.heap.size, 2, none⟩ = some (.int .u16 x2) := r5.at_ 2
  have xr5_3 : W5.cell? ⟨w.heap.size, 3, none⟩ = some (.int .u32 x3) := r5.at_ 3
  have xr5_4 : W5.cell? ⟨w.heap.size, 4, none⟩ = some (.int .u16 x4) := r5.at_ 4
  have xr5_5 : W5.cell? ⟨w.heap.size, 5, none⟩ = some (.int .i64 x5) := r5.at_ 5
  have xr5_6 : W5.cell? ⟨w.heap.size, 6, none⟩ = some (.int .u8 x6) := r5.at_ 6
  have xr5_7 : W5.cell? ⟨w.heap.size, 7, none⟩ = some (.bool x7) := r5.at_ 7
  have xr5_8 : W5.cell? ⟨w.heap.size, 8, none⟩ = some (.int .u8 x8) := r5.at_ 8
  (try simp only [Exit.inBlock, Exit.then]); refine bodyPost_ret (by simp [results, Tryd.results7, go_sem, *]; try rfl) rfl ?_
  first | exact ⟨rfl, b5⟩ | exact ⟨by rw [decide_eq_false (by omega)], b5⟩

set_option maxRecDepth 100000 in
set_option maxHeartbeats 2000000 in
theorem tk_len (s : ByteArray) (n x0 x1 x2 x3 x4 x5 x6 x8 r : Int) (x7 : Bool) (w : World) (K0 : Kinds w) (q2 : n < x8) (q3 : ¬ (20 : Int) ≤ (s.size : Int))
    (c1 : ∀ W, Kinds W → Calls Tryd.prog 9 #[.string s] W (Ret (.tuple #[.agg #[.int .u8 x0, .int .u32 x1, .int .u16 x2, .int .u32 x3, .int .u16 x4, .int .i64 x5, .int .u8 x6, .bool x7, .int .u8 x8], .int .i64 0]) W)) :
    Calls Tryd.prog 7 #[.string s, .int .u8 n] w (Ret (.tuple #[.agg #[.int .u8 x0, .int .u32 x1, .int .u16 x2, .int .u32 x3, .int .u16 x4, .int .i64 x5, .int .u8 x6, .bool x7, .int .u8 x8], .bool false]) w) := by
  have C1 := hide c1; have KK := hide K0
  clear c1 K0
  go_enter Tryd.func7, Tryd.ntmps7
  have d0 := Cells.new w #[.int .u8 0, .int .u32 0, .int .u16 0, .int .u32 0, .int .u16 0, .int .i64 0, .int .u8 0, .bool false, .int .u8 0] 33
  go_wp2_with fail
  (with_reducible refine (C1.out _ (KK.out.below (fresh_below _ _))).mono ?_)
  rintro e w1 ⟨rfl, b1⟩
  have d1 := Cells.alloc (Cells.below b1 d0) (.cells #[.int .u8 x0, .int .u32 x1, .int .u16 x2, .int .u32 x3, .int .u16 x4, .int .i64 x5, .int .u8 x6, .bool x7, .int .u8 x8] 33)
  have e1 := Cells.new w1 #[.int .u8 x0, .int .u32 x1, .int .u16 x2, .int .u32 x3, .int .u16 x4, .int .i64 x5, .int .u8 x6, .bool x7, .int .u8 x8] 33
  replace b1 : Below w.heap.size w (w1.alloc (.cells #[.int .u8 x0, .int .u32 x1, .int .u16 x2, .int .u32 x3, .int .u16 x4, .int .i64 x5, .int .u8 x6, .bool x7, .int .u8 x8] 33)) := bstep (bstep (fresh_below _ _) b1) (fresh_below _ _)
  clear d0
  have xd1_0 : ((w1.alloc (.cells #[.int .u8 x0, .int .u32 x1, .int .u16 x2, .int .u32 x3, .int .u16 x4, .int .i64 x5, .int .u8 x6, .bool x7, .int .u8 x8] 33))).cell? ⟨w.heap.size, 0, none⟩ = some (.int .u8 0) := d1.at_ 0
  have xd1_1 : ((w1.alloc (.cells #[.int .u8 x0, .int .u32 x1, .int .u16 x2, .int .u32 x3, .int .u16 x4, .int .i64 x5, .int .u8 x6, .bool x7, .int .u8 x8] 33))).cell? ⟨w.heap.size, 1, none⟩ = some (.int .u32 0) := d1.at_ 1
  have xd1_2 : ((w1.alloc (.cells #[.int .u8 x0, .int .u32 x1, .int .u16 x2, .int .u32 x3, .int .u16 x4, .int .i64 x5, .int .u8 x6, .bool x7, .int .u8 x8] 33))).cell? ⟨w.heap.size, 2, none⟩ = some (.int .u16 0) := d1.at_ 2
  have xd1_3 : ((w1.alloc (.cells #[.int .u8 x0, .int .u32 x1, .int .u16 x2, .int .u32 x3, .int .u16 x4, .int .i64 x5, .int .u8 x6, .bool x7, .int .u8 x8] 33))).cell? ⟨w.heap.size, 3, none⟩ = some (.int .u32 0) := d1.at_ 3
  have xd1_4 : ((w1.alloc (.cells #[.int .u8 x0, .int .u32 x1, .int .u16 x2, .int .u32 x3, .int .u16 x4, .int .i64 x5, .int .u8 x6, .bool x7, .int .u8 x8] 33))).cell? ⟨w.heap.size, 4, none⟩ = some (.int .u16 0) := d1.at_ 4
  have xd1_5 : ((w1.alloc (.cells #[.int .u8 x0, .int .u32 x1, .int .u16 x2, .int .u32 x3, .int .u16 x4, .int .i64 x5, .int .u8 x6, .bool x7, .int .u8 x8] 33))).cell? ⟨w.heap.size, 5, none⟩ = some (.int .i64 0) := d1.at_ 5
  have xd1_6 : ((w1.alloc (.cells #[.int .u8 x0, .int .u32 x1, .int .u16 x2, .int .u32 x3, .int .u16 x4, .int .i64 x5, .int .u8 x6, .bool x7, .int .u8 x8] 33))).cell? ⟨w.heap.size, 6, none⟩ = some (.int .u8 0) := d1.at_ 6
  have xd1_7 : ((w1.alloc (.cells #[.int .u8 x0, .int .u32 x1, .int .u16 x2, .int .u32 x3, .int .u16 x4, .int .i64 x5, .int .u8 x6, .bool x7, .int .u8 x8] 33))).cell? ⟨w.heap.size, 7, none⟩ = some (.bool false) := d1.at_ 7
  have xd1_8 : ((w1.alloc (.cells #[.int .u8 x0, .int .u32 x1, .int .u16 x2, .int .u32 x3, .int .u16 x4, .int .i64 x5, .int .u8 x6, .bool x7, .int .u8 x8] 33))).cell? ⟨w.heap.size, 8, none⟩ = some (.int .u8 0) := d1.at_ 8
  have yd1_0 : ((w1.alloc (.cells #[.int .u8 x0, .int .u32 x1, .int .u16 x2, .int .u32 x3, .int .u16 x4, .int .i64 x5, .int .u8 x6, .bool x7, .int .u8 x8] 33))).frozen? ⟨w.heap.size, 0, none⟩ = false := d1.free 0
  have yd1_1 : ((w1.alloc (.cells #[.int .u8 x0, .int .u32 x1, .int .u16 x2, .int .u32 x3, .int .u16 x4, .int .i64 x5, .int .u8 x6, .bool x7, .int .u8 x8] 33))).frozen? ⟨w.heap.size, 1, none⟩ = false := d1.free 1
  have yd1_2 : ((w1.alloc (.cells #[.int .u8 x0, .int .u32 x1, .int .u16 x2, .int .u32 x3, .int .u16 x4, .int .i64 x5, .int .u8 x6, .bool x7, .int .u8 x8] 33))).frozen? ⟨w.heap.size, 2, none⟩ = false := d1.free 2
  have yd1_3 : ((w1.alloc (.cells #[.int .u8 x0, .int .u32 x1, .int .u16 x2, .int .u32 x3, .int .u16 x4, .int .i64 x5, .int .u8 x6, .bool x7, .int .u8 x8] 33))).frozen? ⟨w.heap.size, 3, none⟩ = false := d1.free 3
  have yd1_4 : ((w1.alloc (.cells #[.int .u8 x0, .int .u32 x1, .int .u16 x2, .int .u32 x3, .int .u16 x4, .int .i64 x5, .int .u8 x6, .bool x7, .int .u8 x8] 33))).frozen? ⟨w.heap.size, 4, none⟩ = false := d1.free 4
  have yd1_5 : ((w1.alloc (.cells #[.int .u8 x0, .int .u32 x1, .int .u16 x2, .int .u32 x3, .int .u16 x4, .int .i64 x5, .int .u8 x6, .bool x7, .int .u8 x8] 33))).frozen? ⟨w.heap.size, 5, none⟩ = false := d1.free 5
  have yd1_6 : ((w1.alloc (.cells #[.int .u8 x0, .int .u32 x1, .int .u16 x2, .int .u32 x3, .int .u16 x4, .int .i64 x5, .int .u8 x6, .bool x7, .int .u8 x8] 33))).frozen? ⟨w.heap.size, 6, none⟩ = false := d1.free 6
  have yd1_7 : ((w1.alloc (.cells #[.int .u8 x0, .int .u32 x1, .int .u16 x2, .int .u32 x3, .int .u16 x4, .int .i64 x5, .int .u8 x6, .bool x7, .int .u8 x8] 33))).frozen? ⟨w.heap.size, 7, none⟩ = false := d1.free 7
  have yd1_8 : ((w1.alloc (.cells #[.int .u8 x0, .int .u32 x1, .int .u16 x2, .int .u32 x3, .int .u16 x4, .int .i64 x5, .int .u8 x6, .bool x7, .int .u8 x8] 33))).frozen? ⟨w.heap.size, 8, none⟩ = false := d1.free 8
  have xe1_0 : ((w1.alloc (.cells #[.int .u8 x0, .int .u32 x1, .int .u16 x2, .int .u32 x3, .int .u16 x4, .int .i64 x5, .int .u8 x6, .bool x7, .int .u8 x8] 33))).cell? ⟨w1.heap.size, 0, none⟩ = some (.int .u8 x0) := e1.at_ 0
  have xe1_1 : ((w1.alloc (.cells #[.int .u8 x0, .int .u32 x1, .int .u16 x2, .int .u32 x3, .int .u16 x4, .int .i64 x5, .int .u8 x6, .bool x7, .int .u8 x8] 33))).cell? ⟨w1.heap.size, 1, none⟩ = some (.int .u32 x1) := e1.at_ 1
  have xe1_2 : ((w1.alloc (.cells #[.int .u8 x0, .int .u32 x1, .int .u16 x2, .int .u32 x3, .int .u16 x4, .int .i64 x5, .int .u8 x6, .bool x7, .int .u8 x8] 33))).cell? ⟨w1.heap.size, 2, none⟩ = some (.int .u16 x2) := e1.at_ 2
  have xe1_3 : ((w1.alloc (.cells #[.int .u8 x0, .int .u32 x1, .int .u16 x2, .int .u32 x3, .int .u16 x4, .int .i64 x5, .int .u8 x6, .bool x7, .int .u8 x8] 33))).cell? ⟨w1.heap.size, 3, none⟩ = some (.int .u32 x3) := e1.at_ 3
  have xe1_4 : ((w1.alloc (.cells #[.int .u8 x0, .int .u32 x1, .int .u16 x2, .int .u32 x3, .int .u16 x4, .int .i64 x5, .int .u8 x6, .bool x7, .int .u8 x8] 33))).cell? ⟨w1.heap.size, 4, none⟩ = some (.int .u16 x4) := e1.at_ 4
  have xe1_5 : ((w1.alloc (.cells #[.int .u8 x0, .int .u32 x1, .int .u16 x2, .int .u32 x3, .int .u16 x4, .int .i64 x5, .int .u8 x6, .bool x7, .int .u8 x8] 33))).cell? ⟨w1.heap.size, 5, none⟩ = some (.int .i64 x5) := e1.at_ 5
  have xe1_6 : ((w1.alloc (.cells #[.int .u8 x0, .int .u32 x1, .int .u16 x2, .int .u32 x3, .int .u16 x4, .int .i64 x5, .int .u8 x6, .bool x7, .int .u8 x8] 33))).cell? ⟨w1.heap.size, 6, none⟩ = some (.int .u8 x6) := e1.at_ 6
  have xe1_7 : ((w1.alloc (.cells #[.int .u8 x0, .int .u32 x1, .int .u16 x2, .int .u32 x3, .int .u16 x4, .int .i64 x5, .int .u8 x6, .bool x7, .int .u8 x8] 33))).cell? ⟨w1.heap.size, 7, none⟩ = some (.bool x7) := e1.at_ 7
  have xe1_8 : ((w1.alloc (.cells #[.int .u8 x0, .int .u32 x1, .int .u16 x2, .int .u32 x3, .int .u16 x4, .int .i64 x5, .int .u8 x6, .bool x7, .int .u8 x8] 33))).cell? ⟨w1.heap.size, 8, none⟩ = some (.int .u8 x8) := e1.at_ 8
  have D1 := hide d1; have B1 := hide b1
  clear d1 b1 e1
  go_wp2_with fail
  have d1 := D1.out; have b1 := B1.out
  generalize w1.alloc (.cells #[.int .u8 x0, .int .u32 x1, .int .u16 x2, .int .u32 x3, .int .u16 x4, .int .i64 x5, .int .u8 x6, .bool x7, .int .u8 x8] 33) = W at *
  have r5 := (Cells.put9 d1 (.int .u8 x0) (.int .u32 x1) (.int .u16 x2) (.int .u32 x3) (.int .u16 x4) (.int .i64 x5) (.int .u8 x6) (.bool x7) (.int .u8 x8))
  have b5 := (Below.put9 b1 (b := w.heap.size) (by first | exact Nat.le_refl _ | omega) (.int .u8 x0) (.int .u32 x1) (.int .u16 x2) (.int .u32 x3) (.int .u16 x4) (.int .i64 x5) (.int .u8 x6) (.bool x7) (.int .u8 x8))
  have HR5 := hide r5; have HB5 := hide b5
  clear r5 b5 d1
  generalize (((((((((W.setCell ⟨w.heap.size, 0, none⟩ (.int .u8 x0)).setCell ⟨w.heap.size, 1, none⟩ (.int .u32 x1)).setCell ⟨w.heap.size, 2, none⟩ (.int .u16 x2)).setCell ⟨w.heap.size, 3, none⟩ (.int .u32 x3)).setCell ⟨w.heap.size, 4, none⟩ (.int .u16 x4)).setCell ⟨w.heap.size, 5, none⟩ (.int .i64 x5)).setCell ⟨w.heap.size, 6, none⟩ (.int .u8 x6)).setCell ⟨w.heap.size, 7, none⟩ (.bool x7)).setCell ⟨w.heap.size, 8, none⟩ (.int .u8 x8)) = W5 at *
  have r5 := HR5.out; have b5 := HB5.out
  clear HR5 HB5
  have xr5_0 : W5.cell? ⟨w.heap.size, 0, none⟩ = some (.int .u8 x0) := r5.at_ 0
  have xr5_1 : W5.cell? ⟨w.heap.size, 1, none⟩ = some (.int .u32 x1) := r5.at_ 1
  have xr5_2 : W5.cell? ⟨w.heap.size, 2, none⟩ = some (.int .u16 x2) := r5.at_ 2
  have xr5_3 : W5.cell? ⟨w.heap.size, 3, none⟩ = some (.int .u32 x3) := r5.at_ 3
  have xr5_4 : W5.cell? ⟨w.heap.size, 4, none⟩ = some (.int .u16 x4) := r5.at_ 4
  have xr5_5 : W5.cell? ⟨w.heap.size, 5, none⟩ = some (.int .i64 x5) := r5.at_ 5
  have xr5_6 : W5.cell? ⟨w.heap.size, 6, none⟩ = some (.int .u8 x6) := r5.at_ 6
  have xr5_7 : W5.cell? ⟨w.heap.size, 7, none⟩ = some (.bool x7) := r5.at_ 7
  have xr5_8 : W5.cell? ⟨w.heap.size, 8, none⟩ = some (.int .u8 x8) := r5.at_ 8
  (try simp only [Exit.inBlock, Exit.then]); refine bodyPost_ret (by simp [results, Tryd.results7, go_sem, *]; try rfl) rfl ?_
  first | exact ⟨rfl, b5⟩ | exact ⟨by rw [decide_eq_false (by omega)], b5⟩

set_option maxRecDepth 100000 in
set_option maxHeartbeats 2000000 in
theorem tk_yes (s : ByteArray) (n x0 x1 x2 x3 x4 x5 x6 x8 r : Int) (x7 : Bool) (w : World) (K0 : Kinds w) (q2 : n < x8) (q3 : (20 : Int) ≤ (s.size : Int))
    (c1 : ∀ W, Kinds W → Calls Tryd.prog 9 #[.string s] W (Ret (.tuple #[.agg #[.int .u8 x0, .int .u32 x1, .int .u16 x2, .int .u32 x3, .int .u16 x4, .int .i64 x5, .int .u8 x6, .bool x7, .int .u8 x8], .int .i64 0]) W)) :
    Calls Tryd.prog 7 #[.string s, .int .u8 n] w (Ret (.tuple #[.agg #[.int .u8 x0, .int .u32 x1, .int .u16 x2, .int .u32 x3, .int .u16 x4, .int .i64 x5, .int .u8 x6, .bool x7, .int .u8 x8], .bool true]) w) := by
  have C1 := hide c1; have KK := hide K0
  clear c1 K0
  go_enter Tryd.func7, Tryd.ntmps7
  have d0 := Cells.new w #[.int .u8 0, .int .u32 0, .int .u16 0, .int .u32 0, .int .u16 0, .int .i64 0, .int .u8 0, .bool false, .int .u8 0] 33
  go_wp2_with fail
  (with_reducible refine (C1.out _ (KK.out.below (fresh_below _ _))).mono ?_)
  rintro e w1 ⟨rfl, b1⟩
  have d1 := Cells.alloc (Cells.below b1 d0) (.cells #[.int .u8 x0, .int .u32 x1, .int .u16 x2, .int .u32 x3, .int .u16 x4, .int .i64 x5, .int .u8 x6, .bool x7, .int .u8 x8] 33)
  have e1 := Cells.new w1 #[.int .u8 x0, .int .u32 x1, .int .u16 x2, .int .u32 x3, .int .u16 x4, .int .i64 x5, .int .u8 x6, .bool x7, .int .u8 x8] 33
  replace b1 : Below w.heap.size w (w1.alloc (.cells #[.int .u8 x0, .int .u32 x1, .int .u16 x2, .int .u32 x3, .int .u16 x4, .int .i64 x5, .int .u8 x6, .bool x7, .int .u8 x8] 33)) := bstep (bstep (fresh_below _ _) b1) (fresh_below _ _)
  clear d0
  have xd1_0 : ((w1.alloc (.cells #[.int .u8 x0, .int .u32 x1, .int .u16 x2, .int .u32 x3, .int .u16 x4, .int .i64 x5, .int .u8 x6, .bool x7, .int .u8 x8] 33))).cell? ⟨w.heap.size, 0, none⟩ = some (.int .u8 0) := d1.at_ 0
  have xd1_1 : ((w1.alloc (.cells #[.int .u8 x0, .int .u32 x1, .int .u16 x2, .int .u32 x3, .int .u16 x4, .int .i64 x5, .int .u8 x6, .bool x7, .int .u8 x8] 33))).cell? ⟨w.heap.size, 1, none⟩ = some (.int .u32 0) := d1.at_ 1
  have xd1_2 : ((w1.alloc (.cells #[.int .u8 x0, .int .u32 x1, .int .u16 x2, .int .u32 x3, .int .u16 x4, .int .i64 x5, .int .u8 x6, .bool x7, .int .u8 x8] 33))).cell? ⟨w.heap.size, 2, none⟩ = some (.int .u16 0) := d1.at_ 2
  have xd1_3 : ((w1.alloc (.cells #[.int .u8 x0, .int .u32 x1, .int .u16 x2, .int .u32 x3, .int .u16 x4, .int .i64 x5, .int .u8 x6, .bool x7, .int .u8 x8] 33))).cell? ⟨w.heap.size, 3, none⟩ = some (.int .u32 0) := d1.at_ 3
  have xd1_4 : ((w1.alloc (.cells #[.int .u8 x0, .int .u32 x1, .int .u16 x2, .int .u32 x3, .int .u16 x4, .int .i64 x5, .int .u8 x6, .bool x7, .int .u8 x8] 33))).cell? ⟨w.heap.size, 4, none⟩ = some (.int .u16 0) := d1.at_ 4
  have xd1_5 : ((w1.alloc (.cells #[.int .u8 x0, .int .u32 x1, .int .u16 x2, .int .u32 x3, .int .u16 x4, .int .i64 x5, .int .u8 x6, .bool x7, .int .u8 x8] 33))).cell? ⟨w.heap.size, 5, none⟩ = some (.int .i64 0) := d1.at_ 5
  have xd1_6 : ((w1.alloc (.cells #[.int .u8 x0, .int .u32 x1, .int .u16 x2, .int .u32 x3, .int .u16 x4, .int .i64 x5, .int .u8 x6, .bool x7, .int .u8 x8] 33))).cell? ⟨w.heap.size, 6, none⟩ = some (.int .u8 0) := d1.at_ 6
  have xd1_7 : ((w1.alloc (.cells #[.int .u8 x0, .int .u32 x1, .int .u16 x2, .int .u32 x3, .int .u16 x4, .int .i64 x5, .int .u8 x6, .bool x7, .int .u8 x8] 33))).cell? ⟨w.heap.size, 7, none⟩ = some (.bool false) := d1.at_ 7
  have xd1_8 : ((w1.alloc (.cells #[.int .u8 x0, .int .u32 x1, .int .u16 x2, .int .u32 x3, .int .u16 x4, .int .i64 x5, .int .u8 x6, .bool x7, .int .u8 x8] 33))).cell? ⟨w.heap.size, 8, none⟩ = some (.int .u8 0) := d1.at_ 8
  have yd1_0 : ((w1.alloc (.cells #[.int .u8 x0, .int .u32 x1, .int .u16 x2, .int .u32 x3, .int .u16 x4, .int .i64 x5, .int .u8 x6, .bool x7, .int .u8 x8] 33))).frozen? ⟨w.heap.size, 0, none⟩ = false := d1.free 0
  have yd1_1 : ((w1.alloc (.cells #[.int .u8 x0, .int .u32 x1, .int .u16 x2, .int .u32 x3, .int .u16 x4, .int .i64 x5, .int .u8 x6, .bool x7, .int .u8 x8] 33))).frozen? ⟨w.heap.size, 1, none⟩ = false := d1.free 1
  have yd1_2 : ((w1.alloc (.cells #[.int .u8 x0, .int .u32 x1, .int .u16 x2, .int .u32 x3, .int .u16 x4, .int .i64 x5, .int .u8 x6, .bool x7, .int .u8 x8] 33))).frozen? ⟨w.heap.size, 2, none⟩ = false := d1.free 2
  have yd1_3 : ((w1.alloc (.cells #[.int .u8 x0, .int .u32 x1, .int .u16 x2, .int .u32 x3, .int .u16 x4, .int .i64 x5, .int .u8 x6, .bool x7, .int .u8 x8] 33))).frozen? ⟨w.heap.size, 3, none⟩ = false := d1.free 3
  have yd1_4 : ((w1.alloc (.cells #[.int .u8 x0, .int .u32 x1, .int .u16 x2, .int .u32 x3, .int .u16 x4, .int .i64 x5, .int .u8 x6, .bool x7, .int .u8 x8] 33))).frozen? ⟨w.heap.size, 4, none⟩ = false := d1.free 4
  have yd1_5 : ((w1.alloc (.cells #[.int .u8 x0, .int .u32 x1, .int .u16 x2, .int .u32 x3, .int .u16 x4, .int .i64 x5, .int .u8 x6, .bool x7, .int .u8 x8] 33))).frozen? ⟨w.heap.size, 5, none⟩ = false := d1.free 5
  have yd1_6 : ((w1.alloc (.cells #[.int .u8 x0, .int .u32 x1, .int .u16 x2, .int .u32 x3, .int .u16 x4, .int .i64 x5, .int .u8 x6, .bool x7, .int .u8 x8] 33))).frozen? ⟨w.heap.size, 6, none⟩ = false := d1.free 6
  have yd1_7 : ((w1.alloc (.cells #[.int .u8 x0, .int .u32 x1, .int .u16 x2, .int .u32 x3, .int .u16 x4, .int .i64 x5, .int .u8 x6, .bool x7, .int .u8 x8] 33))).frozen? ⟨w.heap.size, 7, none⟩ = false := d1.free 7
  have yd1_8 : ((w1.alloc (.cells #[.int .u8 x0, .int .u32 x1, .int .u16 x2, .int .u32 x3, .int .u16 x4, .int .i64 x5, .int .u8 x6, .bool x7, .int .u8 x8] 33))).frozen? ⟨w.heap.size, 8, none⟩ = false := d1.free 8
  have xe1_0 : ((w1.alloc (.cells #[.int .u8 x0, .int .u32 x1, .int .u16 x2, .int .u32 x3, .int .u16 x4, .int .i64 x5, .int .u8 x6, .bool x7, .int .u8 x8] 33))).cell? ⟨w1.heap.size, 0, none⟩ = some (.int .u8 x0) := e1.at_ 0
  have xe1_1 : ((w1.alloc (.cells #[.int .u8 x0, .int .u32 x1, .int .u16 x2, .int .u32 x3, .int .u16 x4, .int .i64 x5, .int .u8 x6, .bool x7, .int .u8 x8] 33))).cell? ⟨w1.heap.size, 1, none⟩ = some (.int .u32 x1) := e1.at_ 1
  have xe1_2 : ((w1.alloc (.cells #[.int .u8 x0, .int .u32 x1, .int .u16 x2, .int .u32 x3, .int .u16 x4, .int .i64 x5, .int .u8 x6, .bool x7, .int .u8 x8] 33))).cell? ⟨w1.heap.size, 2, none⟩ = some (.int .u16 x2) := e1.at_ 2
  have xe1_3 : ((w1.alloc (.cells #[.int .u8 x0, .int .u32 x1, .int .u16 x2, .int .u32 x3, .int .u16 x4, .int .i64 x5, .int .u8 x6, .bool x7, .int .u8 x8] 33))).cell? ⟨w1.heap.size, 3, none⟩ = some (.int .u32 x3) := e1.at_ 3
  have xe1_4 : ((w1.alloc (.cells #[.int .u8 x0, .int .u32 x1, .int .u16 x2, .int .u32 x3, .int .u16 x4, .int .i64 x5, .int .u8 x6, .bool x7, .int .u8 x8] 33))).cell? ⟨w1.heap.size, 4, none⟩ = some (.int .u16 x4) := e1.at_ 4
  have xe1_5 : ((w1.alloc (.cells #[.int .u8 x0, .int .u32 x1, .int .u16 x2, .int .u32 x3, .int .u16 x4, .int .i64 x5, .int .u8 x6, .bool x7, .int .u8 x8] 33))).cell? ⟨w1.heap.size, 5, none⟩ = some (.int .i64 x5) := e1.at_ 5
  have xe1_6 : ((w1.alloc (.cells #[.int .u8 x0, .int .u32 x1, .int .u16 x2, .int .u32 x3, .int .u16 x4, .int .i64 x5, .int .u8 x6, .bool x7, .int .u8 x8] 33))).cell? ⟨w1.heap.size, 6, none⟩ = some (.int .u8 x6) := e1.at_ 6
  have xe1_7 : ((w1.alloc (.cells #[.int .u8 x0, .int .u32 x1, .int .u16 x2, .int .u32 x3, .int .u16 x4, .int .i64 x5, .int .u8 x6, .bool x7, .int .u8 x8] 33))).cell? ⟨w1.heap.size, 7, none⟩ = some (.bool x7) := e1.at_ 7
  have xe1_8 : ((w1.alloc (.cells #[.int .u8 x0, .int .u32 x1, .int .u16 x2, .int .u32 x3, .int .u16 x4, .int .i64 x5, .int .u8 x6, .bool x7, .int .u8 x8] 33))).cell? ⟨w1.heap.size, 8, none⟩ = some (.int .u8 x8) := e1.at_ 8
  have D1 := hide d1; have B1 := hide b1
  clear d1 b1 e1
  go_wp2_with fail
  have d1 := D1.out; have b1 := B1.out
  generalize w1.alloc (.cells #[.int .u8 x0, .int .u32 x1, .int .u16 x2, .int .u32 x3, .int .u16 x4, .int .i64 x5, .int .u8 x6, .bool x7, .int .u8 x8] 33) = W at *
  have r5 := (Cells.put9 d1 (.int .u8 x0) (.int .u32 x1) (.int .u16 x2) (.int .u32 x3) (.int .u16 x4) (.int .i64 x5) (.int .u8 x6) (.bool x7) (.int .u8 x8))
  have b5 := (Below.put9 b1 (b := w.heap.size) (by first | exact Nat.le_refl _ | omega) (.int .u8 x0) (.int .u32 x1) (.int .u16 x2) (.int .u32 x3) (.int .u16 x4) (.int .i64 x5) (.int .u8 x6) (.bool x7) (.int .u8 x8))
  have HR5 := hide r5; have HB5 := hide b5
  clear r5 b5 d1
  generalize (((((((((W.setCell ⟨w.heap.size, 0, none⟩ (.int .u8 x0)).setCell ⟨w.heap.size, 1, none⟩ (.int .u32 x1)).setCell ⟨w.heap.size, 2, none⟩ (.int .u16 x2)).setCell ⟨w.heap.size, 3, none⟩ (.int .u32 x3)).setCell ⟨w.heap.size, 4, none⟩ (.int .u16 x4)).setCell ⟨w.heap.size, 5, none⟩ (.int .i64 x5)).setCell ⟨w.heap.size, 6, none⟩ (.int .u8 x6)).setCell ⟨w.heap.size, 7, none⟩ (.bool x7)).setCell ⟨w.heap.size, 8, none⟩ (.int .u8 x8)) = W5 at *
  have r5 := HR5.out; have b5 := HB5.out
  clear HR5 HB5
  have xr5_0 : W5.cell? ⟨w.heap.size, 0, none⟩ = some (.int .u8 x0) := r5.at_ 0
  have xr5_1 : W5.cell? ⟨w.heap.size, 1, none⟩ = some (.int .u32 x1) := r5.at_ 1
  have xr5_2 : W5.cell? ⟨w.heap.size, 2, none⟩ = some (.int .u16 x2) := r5.at_ 2
  have xr5_3 : W5.cell? ⟨w.heap.size, 3, none⟩ = some (.int .u32 x3) := r5.at_ 3
  have xr5_4 : W5.cell? ⟨w.heap.size, 4, none⟩ = some (.int .u16 x4) := r5.at_ 4
  have xr5_5 : W5.cell? ⟨w.heap.size, 5, none⟩ = some (.int .i64 x5) := r5.at_ 5
  have xr5_6 : W5.cell? ⟨w.heap.size, 6, none⟩ = some (.int .u8 x6) := r5.at_ 6
  have xr5_7 : W5.cell? ⟨w.heap.size, 7, none⟩ = some (.bool x7) := r5.at_ 7
  have xr5_8 : W5.cell? ⟨w.heap.size, 8, none⟩ = some (.int .u8 x8) := r5.at_ 8
  (try simp only [Exit.inBlock, Exit.then]); refine bodyPost_ret (by simp [results, Tryd.results7, go_sem, *]; try rfl) rfl ?_
  first | exact ⟨rfl, b5⟩ | exact ⟨by rw [decide_eq_false (by omega)], b5⟩

theorem taken_walk (s : ByteArray) (n : Int) (w : World) (K0 : Kinds w) (hs : s.size ≤ 140737488351232) :
    Calls Tryd.prog 7 #[.string s, .int .u8 n] w (Ret (.tuple #[.agg (seenOf s).cells, .bool (decide (seenWhy s = 0 ∧ n < (seenOf s).l ∧ 20 ≤ s.size))]) w) := by
  have c1 := fun W K => tu_Of s W K hs
  unfold Seen.cells at c1 ⊢
  by_cases h1 : seenWhy s = 0
  · rw [h1] at c1
    by_cases h2 : n < (seenOf s).l
    · by_cases h3 : 20 ≤ s.size
      · rw [decide_eq_true ⟨h1, h2, h3⟩]
        exact tk_yes s n _ _ _ _ _ _ _ _ 0 _ w K0 h2 (by omega) c1
      · rw [decide_eq_false (fun h => h3 h.2.2)]
        exact tk_len s n _ _ _ _ _ _ _ _ 0 _ w K0 h2 (by omega) c1
    · rw [decide_eq_false (fun h => h2 h.2.1)]
      exact tk_ttl s n _ _ _ _ _ _ _ _ 0 _ w K0 h2 c1
  · rw [decide_eq_false (fun h => h1 h.1)]
    exact tk_why s n _ _ _ _ _ _ _ _ (seenWhy s) _ w K0 (by simpa using h1) c1

set_option maxRecDepth 100000 in
set_option maxHeartbeats 2000000 in
theorem sm_tcp (s : ByteArray) (y x0 x1 x2 x3 x4 x5 x6 x8 r : Int) (x7 : Bool) (w : World) (K0 : Kinds w) (i5 : 0 < s.size) (i4 : (0 : Int) < (s.size : Int)) (hb : 0 ≤ y ∧ y ≤ 255) (e0 : (((s[0]'i5).toNat : Nat) : Int) = y) (q1 : (x0 == 6) = true)
    (c1 : ∀ W, Kinds W → Calls Tryd.prog 9 #[.string s] W (Ret (.tuple #[.agg #[.int .u8 x0, .int .u32 x1, .int .u16 x2, .int .u32 x3, .int .u16 x4, .int .i64 x5, .int .u8 x6, .bool x7, .int .u8 x8], .int .i64 r]) W)) :
    Calls Tryd.prog 10 #[.string s] w (Ret (.int .i64 (y % 16 * 4 + 16)) w) := by
  have C1 := hide c1; have KK := hide K0
  clear c1 K0
  go_enter Tryd.func10, Tryd.ntmps10
  go_wp2_with fail
  (with_reducible refine (C1.out _ KK.out).mono ?_)
  rintro e w1 ⟨rfl, b1⟩
  have e1 := Cells.new w1 #[.int .u8 x0, .int .u32 x1, .int .u16 x2, .int .u32 x3, .int .u16 x4, .int .i64 x5, .int .u8 x6, .bool x7, .int .u8 x8] 33
  replace b1 : Below w.heap.size w (w1.alloc (.cells #[.int .u8 x0, .int .u32 x1, .int .u16 x2, .int .u32 x3, .int .u16 x4, .int .i64 x5, .int .u8 x6, .bool x7, .int .u8 x8] 33)) := bstep b1 (fresh_below _ _)
  have xe1_0 : ((w1.alloc (.cells #[.int .u8 x0, .int .u32 x1, .int .u16 x2, .int .u32 x3, .int .u16 x4, .int .i64 x5, .int .u8 x6, .bool x7, .int .u8 x8] 33))).cell? ⟨w1.heap.size, 0, none⟩ = some (.int .u8 x0) := e1.at_ 0
  have xe1_1 : ((w1.alloc (.cells #[.int .u8 x0, .int .u32 x1, .int .u16 x2, .int .u32 x3, .int .u16 x4, .int .i64 x5, .int .u8 x6, .bool x7, .int .u8 x8] 33))).cell? ⟨w1.heap.size, 1, none⟩ = some (.int .u32 x1) := e1.at_ 1
  have xe1_2 : ((w1.alloc (.cells #[.int .u8 x0, .int .u32 x1, .int .u16 x2, .int .u32 x3, .int .u16 x4, .int .i64 x5, .int .u8 x6, .bool x7, .int .u8 x8] 33))).cell? ⟨w1.heap.size, 2, none⟩ = some (.int .u16 x2) := e1.at_ 2
  have xe1_3 : ((w1.alloc (.cells #[.int .u8 x0, .int .u32 x1, .int .u16 x2, .int .u32 x3, .int .u16 x4, .int .i64 x5, .int .u8 x6, .bool x7, .int .u8 x8] 33))).cell? ⟨w1.heap.size, 3, none⟩ = some (.int .u32 x3) := e1.at_ 3
  have xe1_4 : ((w1.alloc (.cells #[.int .u8 x0, .int .u32 x1, .int .u16 x2, .int .u32 x3, .int .u16 x4, .int .i64 x5, .int .u8 x6, .bool x7, .int .u8 x8] 33))).cell? ⟨w1.heap.size, 4, none⟩ = some (.int .u16 x4) := e1.at_ 4
  have xe1_5 : ((w1.alloc (.cells #[.int .u8 x0, .int .u32 x1, .int .u16 x2, .int .u32 x3, .int .u16 x4, .int .i64 x5, .int .u8 x6, .bool x7, .int .u8 x8] 33))).cell? ⟨w1.heap.size, 5, none⟩ = some (.int .i64 x5) := e1.at_ 5
  have xe1_6 : ((w1.alloc (.cells #[.int .u8 x0, .int .u32 x1, .int .u16 x2, .int .u32 x3, .int .u16 x4, .int .i64 x5, .int .u8 x6, .bool x7, .int .u8 x8] 33))).cell? ⟨w1.heap.size, 6, none⟩ = some (.int .u8 x6) := e1.at_ 6
  have xe1_7 : ((w1.alloc (.cells #[.int .u8 x0, .int .u32 x1, .int .u16 x2, .int .u32 x3, .int .u16 x4, .int .i64 x5, .int .u8 x6, .bool x7, .int .u8 x8] 33))).cell? ⟨w1.heap.size, 7, none⟩ = some (.bool x7) := e1.at_ 7
  have xe1_8 : ((w1.alloc (.cells #[.int .u8 x0, .int .u32 x1, .int .u16 x2, .int .u32 x3, .int .u16 x4, .int .i64 x5, .int .u8 x6, .bool x7, .int .u8 x8] 33))).cell? ⟨w1.heap.size, 8, none⟩ = some (.int .u8 x8) := e1.at_ 8
  clear e1
  go_wp2_with fail
  (try simp only [Exit.inBlock, Exit.then]); refine bodyPost_ret (by simp [results, Tryd.results10, go_sem]; try rfl) rfl ?_
  exact ⟨by first | rfl | (simp; omega), b1⟩

set_option maxRecDepth 100000 in
set_option maxHeartbeats 2000000 in
theorem sm_udp (s : ByteArray) (y x0 x1 x2 x3 x4 x5 x6 x8 r : Int) (x7 : Bool) (w : World) (K0 : Kinds w) (i5 : 0 < s.size) (i4 : (0 : Int) < (s.size : Int)) (hb : 0 ≤ y ∧ y ≤ 255) (e0 : (((s[0]'i5).toNat : Nat) : Int) = y) (q1 : (x0 == 6) = false) (q2 : (x0 == 17) = true)
    (c1 : ∀ W, Kinds W → Calls Tryd.prog 9 #[.string s] W (Ret (.tuple #[.agg #[.int .u8 x0, .int .u32 x1, .int .u16 x2, .int .u32 x3, .int .u16 x4, .int .i64 x5, .int .u8 x6, .bool x7, .int .u8 x8], .int .i64 r]) W)) :
    Calls Tryd.prog 10 #[.string s] w (Ret (.int .i64 (y % 16 * 4 + 6)) w) := by
  have C1 := hide c1; have KK := hide K0
  clear c1 K0
  go_enter Tryd.func10, Tryd.ntmps10
  go_wp2_with fail
  (with_reducible refine (C1.out _ KK.out).mono ?_)
  rintro e w1 ⟨rfl, b1⟩
  have e1 := Cells.new w1 #[.int .u8 x0, .int .u32 x1, .int .u16 x2, .int .u32 x3, .int .u16 x4, .int .i64 x5, .int .u8 x6, .bool x7, .int .u8 x8] 33
  replace b1 : Below w.heap.size w (w1.alloc (.cells #[.int .u8 x0, .int .u32 x1, .int .u16 x2, .int .u32 x3, .int .u16 x4, .int .i64 x5, .int .u8 x6, .bool x7, .int .u8 x8] 33)) := bstep b1 (fresh_below _ _)
  have xe1_0 : ((w1.alloc (.cells #[.int .u8 x0, .int .u32 x1, .int .u16 x2, .int .u32 x3, .int .u16 x4, .int .i64 x5, .int .u8 x6, .bool x7, .int .u8 x8] 33))).cell? ⟨w1.heap.size, 0, none⟩ = some (.int .u8 x0) := e1.at_ 0
  have xe1_1 : ((w1.alloc (.cells #[.int .u8 x0, .int .u32 x1, .int .u16 x2, .int .u32 x3, .int .u16 x4, .int .i64 x5, .int .u8 x6, .bool x7, .int .u8 x8] 33))).cell? ⟨w1.heap.size, 1, none⟩ = some (.int .u32 x1) := e1.at_ 1
  have xe1_2 : ((w1.alloc (.cells #[.int .u8 x0, .int .u32 x1, .int .u16 x2, .int .u32 x3, .int .u16 x4, .int .i64 x5, .int .u8 x6, .bool x7, .int .u8 x8] 33))).cell? ⟨w1.heap.size, 2, none⟩ = some (.int .u16 x2) := e1.at_ 2
  have xe1_3 : ((w1.alloc (.cells #[.int .u8 x0, .int .u32 x1, .int .u16 x2, .int .u32 x3, .int .u16 x4, .int .i64 x5, .int .u8 x6, .bool x7, .int .u8 x8] 33))).cell? ⟨w1.heap.size, 3, none⟩ = some (.int .u32 x3) := e1.at_ 3
  have xe1_4 : ((w1.alloc (.cells #[.int .u8 x0, .int .u32 x1, .int .u16 x2, .int .u32 x3, .int .u16 x4, .int .i64 x5, .int .u8 x6, .bool x7, .int .u8 x8] 33))).cell? ⟨w1.heap.size, 4, none⟩ = some (.int .u16 x4) := e1.at_ 4
  have xe1_5 : ((w1.alloc (.cells #[.int .u8 x0, .int .u32 x1, .int .u16 x2, .int .u32 x3, .int .u16 x4, .int .i64 x5, .int .u8 x6, .bool x7, .int .u8 x8] 33))).cell? ⟨w1.heap.size, 5, none⟩ = some (.int .i64 x5) := e1.at_ 5
  have xe1_6 : ((w1.alloc (.cells #[.int .u8 x0, .int .u32 x1, .int .u16 x2, .int .u32 x3, .int .u16 x4, .int .i64 x5, .int .u8 x6, .bool x7, .int .u8 x8] 33))).cell? ⟨w1.heap.size, 6, none⟩ = some (.int .u8 x6) := e1.at_ 6
  have xe1_7 : ((w1.alloc (.cells #[.int .u8 x0, .int .u32 x1, .int .u16 x2, .int .u32 x3, .int .u16 x4, .int .i64 x5, .int .u8 x6, .bool x7, .int .u8 x8] 33))).cell? ⟨w1.heap.size, 7, none⟩ = some (.bool x7) := e1.at_ 7
  have xe1_8 : ((w1.alloc (.cells #[.int .u8 x0, .int .u32 x1, .int .u16 x2, .int .u32 x3, .int .u16 x4, .int .i64 x5, .int .u8 x6, .bool x7, .int .u8 x8] 33))).cell? ⟨w1.heap.size, 8, none⟩ = some (.int .u8 x8) := e1.at_ 8
  clear e1
  go_wp2_with fail
  (try simp only [Exit.inBlock, Exit.then]); refine bodyPost_ret (by simp [results, Tryd.results10, go_sem]; try rfl) rfl ?_
  exact ⟨by first | rfl | (simp; omega), b1⟩

set_option maxRecDepth 100000 in
set_option maxHeartbeats 2000000 in
theorem sm_err (s : ByteArray) (y x0 x1 x2 x3 x4 x5 x6 x8 r : Int) (x7 : Bool) (w : World) (K0 : Kinds w) (i5 : 0 < s.size) (i4 : (0 : Int) < (s.size : Int)) (hb : 0 ≤ y ∧ y ≤ 255) (e0 : (((s[0]'i5).toNat : Nat) : Int) = y) (q1 : (x0 == 6) = false) (q2 : (x0 == 17) = false) (q3 : (x5 == 3) = true)
    (c1 : ∀ W, Kinds W → Calls Tryd.prog 9 #[.string s] W (Ret (.tuple #[.agg #[.int .u8 x0, .int .u32 x1, .int .u16 x2, .int .u32 x3, .int .u16 x4, .int .i64 x5, .int .u8 x6, .bool x7, .int .u8 x8], .int .i64 r]) W)) :
    Calls Tryd.prog 10 #[.string s] w (Ret (.int .i64 0) w) := by
  have C1 := hide c1; have KK := hide K0
  clear c1 K0
  go_enter Tryd.func10, Tryd.ntmps10
  go_wp2_with fail
  (with_reducible refine (C1.out _ KK.out).mono ?_)
  rintro e w1 ⟨rfl, b1⟩
  have e1 := Cells.new w1 #[.int .u8 x0, .int .u32 x1, .int .u16 x2, .int .u32 x3, .int .u16 x4, .int .i64 x5, .int .u8 x6, .bool x7, .int .u8 x8] 33
  replace b1 : Below w.heap.size w (w1.alloc (.cells #[.int .u8 x0, .int .u32 x1, .int .u16 x2, .int .u32 x3, .int .u16 x4, .int .i64 x5, .int .u8 x6, .bool x7, .int .u8 x8] 33)) := bstep b1 (fresh_below _ _)
  have xe1_0 : ((w1.alloc (.cells #[.int .u8 x0, .int .u32 x1, .int .u16 x2, .int .u32 x3, .int .u16 x4, .int .i64 x5, .int .u8 x6, .bool x7, .int .u8 x8] 33))).cell? ⟨w1.heap.size, 0, none⟩ = some (.int .u8 x0) := e1.at_ 0
  have xe1_1 : ((w1.alloc (.cells #[.int .u8 x0, .int .u32 x1, .int .u16 x2, .int .u32 x3, .int .u16 x4, .int .i64 x5, .int .u8 x6, .bool x7, .int .u8 x8] 33))).cell? ⟨w1.heap.size, 1, none⟩ = some (.int .u32 x1) := e1.at_ 1
  have xe1_2 : ((w1.alloc (.cells #[.int .u8 x0, .int .u32 x1, .int .u16 x2, .int .u32 x3, .int .u16 x4, .int .i64 x5, .int .u8 x6, .bool x7, .int .u8 x8] 33))).cell? ⟨w1.heap.size, 2, none⟩ = some (.int .u16 x2) := e1.at_ 2
  have xe1_3 : ((w1.alloc (.cells #[.int .u8 x0, .int .u32 x1, .int .u16 x2, .int .u32 x3, .int .u16 x4, .int .i64 x5, .int .u8 x6, .bool x7, .int .u8 x8] 33))).cell? ⟨w1.heap.size, 3, none⟩ = some (.int .u32 x3) := e1.at_ 3
  have xe1_4 : ((w1.alloc (.cells #[.int .u8 x0, .int .u32 x1, .int .u16 x2, .int .u32 x3, .int .u16 x4, .int .i64 x5, .int .u8 x6, .bool x7, .int .u8 x8] 33))).cell? ⟨w1.heap.size, 4, none⟩ = some (.int .u16 x4) := e1.at_ 4
  have xe1_5 : ((w1.alloc (.cells #[.int .u8 x0, .int .u32 x1, .int .u16 x2, .int .u32 x3, .int .u16 x4, .int .i64 x5, .int .u8 x6, .bool x7, .int .u8 x8] 33))).cell? ⟨w1.heap.size, 5, none⟩ = some (.int .i64 x5) := e1.at_ 5
  have xe1_6 : ((w1.alloc (.cells #[.int .u8 x0, .int .u32 x1, .int .u16 x2, .int .u32 x3, .int .u16 x4, .int .i64 x5, .int .u8 x6, .bool x7, .int .u8 x8] 33))).cell? ⟨w1.heap.size, 6, none⟩ = some (.int .u8 x6) := e1.at_ 6
  have xe1_7 : ((w1.alloc (.cells #[.int .u8 x0, .int .u32 x1, .int .u16 x2, .int .u32 x3, .int .u16 x4, .int .i64 x5, .int .u8 x6, .bool x7, .int .u8 x8] 33))).cell? ⟨w1.heap.size, 7, none⟩ = some (.bool x7) := e1.at_ 7
  have xe1_8 : ((w1.alloc (.cells #[.int .u8 x0, .int .u32 x1, .int .u16 x2, .int .u32 x3, .int .u16 x4, .int .i64 x5, .int .u8 x6, .bool x7, .int .u8 x8] 33))).cell? ⟨w1.heap.size, 8, none⟩ = some (.int .u8 x8) := e1.at_ 8
  clear e1
  go_wp2_with fail
  (try simp only [Exit.inBlock, Exit.then]); refine bodyPost_ret (by simp [results, Tryd.results10, go_sem]; try rfl) rfl ?_
  exact ⟨by first | rfl | (simp; omega), b1⟩

set_option maxRecDepth 100000 in
set_option maxHeartbeats 2000000 in
theorem sm_ask (s : ByteArray) (y x0 x1 x2 x3 x4 x5 x6 x8 r : Int) (x7 : Bool) (w : World) (K0 : Kinds w) (i5 : 0 < s.size) (i4 : (0 : Int) < (s.size : Int)) (hb : 0 ≤ y ∧ y ≤ 255) (e0 : (((s[0]'i5).toNat : Nat) : Int) = y) (q1 : (x0 == 6) = false) (q2 : (x0 == 17) = false) (q3 : (x5 == 3) = false)
    (c1 : ∀ W, Kinds W → Calls Tryd.prog 9 #[.string s] W (Ret (.tuple #[.agg #[.int .u8 x0, .int .u32 x1, .int .u16 x2, .int .u32 x3, .int .u16 x4, .int .i64 x5, .int .u8 x6, .bool x7, .int .u8 x8], .int .i64 r]) W)) :
    Calls Tryd.prog 10 #[.string s] w (Ret (.int .i64 (y % 16 * 4 + 2)) w) := by
  have C1 := hide c1; have KK := hide K0
  clear c1 K0
  go_enter Tryd.func10, Tryd.ntmps10
  go_wp2_with fail
  (with_reducible refine (C1.out _ KK.out).mono ?_)
  rintro e w1 ⟨rfl, b1⟩
  have e1 := Cells.new w1 #[.int .u8 x0, .int .u32 x1, .int .u16 x2, .int .u32 x3, .int .u16 x4, .int .i64 x5, .int .u8 x6, .bool x7, .int .u8 x8] 33
  replace b1 : Below w.heap.size w (w1.alloc (.cells #[.int .u8 x0, .int .u32 x1, .int .u16 x2, .int .u32 x3, .int .u16 x4, .int .i64 x5, .int .u8 x6, .bool x7, .int .u8 x8] 33)) := bstep b1 (fresh_below _ _)
  have xe1_0 : ((w1.alloc (.cells #[.int .u8 x0, .int .u32 x1, .int .u16 x2, .int .u32 x3, .int .u16 x4, .int .i64 x5, .int .u8 x6, .bool x7, .int .u8 x8] 33))).cell? ⟨w1.heap.size, 0, none⟩ = some (.int .u8 x0) := e1.at_ 0
  have xe1_1 : ((w1.alloc (.cells #[.int .u8 x0, .int .u32 x1, .int .u16 x2, .int .u32 x3, .int .u16 x4, .int .i64 x5, .int .u8 x6, .bool x7, .int .u8 x8] 33))).cell? ⟨w1.heap.size, 1, none⟩ = some (.int .u32 x1) := e1.at_ 1
  have xe1_2 : ((w1.alloc (.cells #[.int .u8 x0, .int .u32 x1, .int .u16 x2, .int .u32 x3, .int .u16 x4, .int .i64 x5, .int .u8 x6, .bool x7, .int .u8 x8] 33))).cell? ⟨w1.heap.size, 2, none⟩ = some (.int .u16 x2) := e1.at_ 2
  have xe1_3 : ((w1.alloc (.cells #[.int .u8 x0, .int .u32 x1, .int .u16 x2, .int .u32 x3, .int .u16 x4, .int .i64 x5, .int .u8 x6, .bool x7, .int .u8 x8] 33))).cell? ⟨w1.heap.size, 3, none⟩ = some (.int .u32 x3) := e1.at_ 3
  have xe1_4 : ((w1.alloc (.cells #[.int .u8 x0, .int .u32 x1, .int .u16 x2, .int .u32 x3, .int .u16 x4, .int .i64 x5, .int .u8 x6, .bool x7, .int .u8 x8] 33))).cell? ⟨w1.heap.size, 4, none⟩ = some (.int .u16 x4) := e1.at_ 4
  have xe1_5 : ((w1.alloc (.cells #[.int .u8 x0, .int .u32 x1, .int .u16 x2, .int .u32 x3, .int .u16 x4, .int .i64 x5, .int .u8 x6, .bool x7, .int .u8 x8] 33))).cell? ⟨w1.heap.size, 5, none⟩ = some (.int .i64 x5) := e1.at_ 5
  have xe1_6 : ((w1.alloc (.cells #[.int .u8 x0, .int .u32 x1, .int .u16 x2, .int .u32 x3, .int .u16 x4, .int .i64 x5, .int .u8 x6, .bool x7, .int .u8 x8] 33))).cell? ⟨w1.heap.size, 6, none⟩ = some (.int .u8 x6) := e1.at_ 6
  have xe1_7 : ((w1.alloc (.cells #[.int .u8 x0, .int .u32 x1, .int .u16 x2, .int .u32 x3, .int .u16 x4, .int .i64 x5, .int .u8 x6, .bool x7, .int .u8 x8] 33))).cell? ⟨w1.heap.size, 7, none⟩ = some (.bool x7) := e1.at_ 7
  have xe1_8 : ((w1.alloc (.cells #[.int .u8 x0, .int .u32 x1, .int .u16 x2, .int .u32 x3, .int .u16 x4, .int .i64 x5, .int .u8 x6, .bool x7, .int .u8 x8] 33))).cell? ⟨w1.heap.size, 8, none⟩ = some (.int .u8 x8) := e1.at_ 8
  clear e1
  go_wp2_with fail
  (try simp only [Exit.inBlock, Exit.then]); refine bodyPost_ret (by simp [results, Tryd.results10, go_sem]; try rfl) rfl ?_
  exact ⟨by first | rfl | (simp; omega), b1⟩

theorem sumAt_walk (s : ByteArray) (w : World) (K0 : Kinds w) (hs : s.size ≤ 140737488351232) (h1 : 1 ≤ s.size) :
    Calls Tryd.prog 10 #[.string s] w (Ret (.int .i64 ((sumAtL (seenOf s) (ipOwn (L s)).toNat : Nat) : Int)) w) := by
  have c1 := fun W K => tu_Of s W K hs
  unfold Seen.cells at c1
  have hb := at_bd (L s) 0
  have e0 : (((s[0]'(by omega)).toNat : Nat) : Int) = at_ (L s) 0 := by rw [getElem_L s 0 (by omega)]; rfl
  unfold sumAtL
  have ho : ipOwn (L s) = at_ (L s) 0 % 16 * 4 := rfl
  by_cases p6 : (seenOf s).t.p = 6
  · rw [if_pos p6, show (((ipOwn (L s)).toNat + 16 : Nat) : Int) = at_ (L s) 0 % 16 * 4 + 16 from by omega]
    exact sm_tcp s _ _ _ _ _ _ _ _ _ _ _ w K0 (by omega) (by omega) hb e0 (by simpa using p6) c1
  rw [if_neg p6]
  by_cases p17 : (seenOf s).t.p = 17
  · rw [if_pos p17, show (((ipOwn (L s)).toNat + 6 : Nat) : Int) = at_ (L s) 0 % 16 * 4 + 6 from by omega]
    exact sm_udp s _ _ _ _ _ _ _ _ _ _ _ w K0 (by omega) (by omega) hb e0 (by simpa using p6) (by simpa using p17) c1
  rw [if_neg p17]
  by_cases k3 : (seenOf s).k = 3
  · rw [if_pos k3]
    exact sm_err s _ _ _ _ _ _ _ _ _ _ _ w K0 (by omega) (by omega) hb e0 (by simpa using p6) (by simpa using p17) (by simpa using k3) c1
  · rw [if_neg k3, show (((ipOwn (L s)).toNat + 2 : Nat) : Int) = at_ (L s) 0 % 16 * 4 + 2 from by omega]
    exact sm_ask s _ _ _ _ _ _ _ _ _ _ _ w K0 (by omega) (by omega) hb e0 (by simpa using p6) (by simpa using p17) (by simpa using k3) c1

end Go.Proofs.YtpidgmamollmgaaDoor
end

section
/- Packets, changed: what the statements say of them, plain. No walk. -/
set_option linter.unusedVariables false
namespace Go.Proofs.YtpidgmamollmgaaDoor
open Go.RowKit

theorem load_ends (h : Hd) (l : ByteArray) : (loadSeen h l).t.a = h.s ∧ (loadSeen h l).t.c = h.d ∧ (loadSeen h l).l = h.l := by
  unfold loadSeen
  split
  · exact ⟨rfl, rfl, rfl⟩
  split
  · exact ⟨rfl, rfl, rfl⟩
  split
  · exact ⟨rfl, rfl, rfl⟩
  split <;> exact ⟨rfl, rfl, rfl⟩
theorem load_ports (h : Hd) (l : ByteArray) : (0 ≤ (loadSeen h l).t.b ∧ (loadSeen h l).t.b ≤ 65535) ∧ (0 ≤ (loadSeen h l).t.d ∧ (loadSeen h l).t.d ≤ 65535) := by
  have g := fun l' i => get16_bd l' i
  unfold loadSeen
  split
  · exact ⟨g _ _, g _ _⟩
  split
  · exact ⟨g _ _, g _ _⟩
  split
  · exact ⟨g _ _, by dsimp only; omega⟩
  split
  · exact ⟨by dsimp only; omega, g _ _⟩
  · exact ⟨by dsimp only; omega, by dsimp only; omega⟩
theorem seenTo_sum (x : Seen) (a b c d : Int) (own : Nat) : sumAtL (seenTo x a b c d) own = sumAtL x own := by
  unfold seenTo
  split
  · rfl
  split
  · rfl
  split <;> rfl
theorem seenTo_l (x : Seen) (a b c d : Int) : (seenTo x a b c d).l = x.l - 1 := by
  unfold seenTo
  split
  · rfl
  split
  · rfl
  split <;> rfl
theorem taken_whole {s : ByteArray} (h : seenWhy s = 0) : ∃ H P R, s = S (H ++ P ++ R) ∧ Whole H P ∧ loadWhy (at_ H 9) (S P) = 0 ∧ seenOf s = loadSeen (hdL H) (S P) ∧ (seenOf s).l = at_ H 8 := by
  have hip : ipWhy s = 0 := by
    unfold seenWhy at h
    by_cases hi : ipWhy s = 0
    · exact hi
    · rw [if_neg hi] at h; exact h
  obtain ⟨H, P, R, rfl, w⟩ := whole_of hip
  obtain ⟨e1, e2, _⟩ := seen_whole R w
  rw [e1] at h
  exact ⟨H, P, R, rfl, w, h, e2 h, by rw [e2 h]; exact (load_ends _ _).2.2⟩
/-- what a whole packet is, changed -/
theorem out_whole {H P : List UInt8} (R : List UInt8) {a b c d : Int} (w : Whole H P) (hw : loadWhy (at_ H 9) (S P) = 0) (h8 : 2 ≤ at_ H 8) (ha : 0 ≤ a ∧ a ≤ 4294967295) (hb : 0 ≤ b ∧ b ≤ 65535) (hc : 0 ≤ c ∧ c ≤ 4294967295) (hd : 0 ≤ d ∧ d ≤ 65535) :
    ∃ G Q, Whole G Q ∧ G = headNew H a c ∧ Q = loadNew (loadSeen (hdL H) (S P)) P ((H.drop 12).take 8) a b c d ∧ rwWhy (S (H ++ P ++ R)) = 0 ∧ rwOut (S (H ++ P ++ R)) a b c d = S (G ++ Q) ∧ G.length = H.length ∧ Q.length = P.length ∧ at_ G 8 = at_ H 8 - 1 ∧ at_ G 9 = at_ H 9 ∧
      loadWhy (at_ G 9) (S Q) = 0 ∧ loadSeen (hdL G) (S Q) = seenTo (loadSeen (hdL H) (S P)) a b c d ∧ (G.drop 12).take 8 = ipsOf a c := by
  obtain ⟨c1, c2, c3, c4, c5, c6⟩ := change w hw (by omega) ha hb hc hd
  obtain ⟨e1, e2, e3⟩ := seen_whole R w
  have hy : rwWhy (S (H ++ P ++ R)) = 0 := by
    unfold rwWhy
    rw [e1, if_neg (by omega), e2 hw, if_neg]
    rw [(load_ends _ _).2.2]
    show ¬ at_ H 8 < 2
    omega
  refine ⟨_, _, c1, rfl, rfl, hy, ?_, headNew_length a c w.h20, c2, c4, c3, by rw [c3]; exact c5, c6, ips_new a c w.h20⟩
  unfold rwOut
  rw [if_pos hy, e3, e2 hw]
def plainOf (s : ByteArray) : ByteArray := S (plainL (L s) (sumAtL (seenOf s) (ipOwn (L s)).toNat))
theorem plainOf_whole {H P : List UInt8} (w : Whole H P) (hw : loadWhy (at_ H 9) (S P) = 0) : plainOf (S (H ++ P)) = S (plainL (H ++ P) (sumAtL (loadSeen (hdL H) (S P)) H.length)) := by
  obtain ⟨e1, e2, e3⟩ := seen_whole [] w
  rw [List.append_nil] at e2
  have h20 := w.h20
  unfold plainOf
  rw [e2 hw, L_S, own_app (by omega), w.own, Int.toNat_natCast]
theorem app_nil (l : List UInt8) : S l = S (l ++ []) := by rw [List.append_nil]

theorem rw_twice {s : ByteArray} {a b c d a2 b2 c2 d2 : Int} (h : seenWhy s = 0) (hl : 2 < (seenOf s).l) (ha : 0 ≤ a ∧ a ≤ 4294967295) (hb : 0 ≤ b ∧ b ≤ 65535) (hc : 0 ≤ c ∧ c ≤ 4294967295) (hd : 0 ≤ d ∧ d ≤ 65535)
    (ha2 : 0 ≤ a2 ∧ a2 ≤ 4294967295) (hb2 : 0 ≤ b2 ∧ b2 ≤ 65535) (hc2 : 0 ≤ c2 ∧ c2 ≤ 4294967295) (hd2 : 0 ≤ d2 ∧ d2 ≤ 65535) :
    rwWhy s = 0 ∧ rwWhy (rwOut s a b c d) = 0 ∧ 20 ≤ (rwOut (rwOut s a b c d) a2 b2 c2 d2).size ∧ 20 ≤ (rwOut s a2 b2 c2 d2).size ∧
    plainOf (rwOut (rwOut s a b c d) a2 b2 c2 d2) = plainOf (rwOut s a2 b2 c2 d2) := by
  obtain ⟨H, P, R, rfl, w, hw, hx, h8⟩ := taken_whole h
  rw [h8] at hl
  have h20 := w.h20
  obtain ⟨G, Q, wG, eG, eQ, y1, o1, zG, zQ, G8, G9, hwG, xG, iG⟩ := out_whole R (a := a) (b := b) (c := c) (d := d) w hw (by omega) ha hb hc hd
  obtain ⟨K, U, wK, eK, eU, y2, o2, zK, zU, K8, K9, hwK, xK, iK⟩ := out_whole [] (a := a2) (b := b2) (c := c2) (d := d2) wG hwG (by omega) ha2 hb2 hc2 hd2
  obtain ⟨M, V, wM, eM, eV, y3, o3, zM, zV, M8, M9, hwM, xM, iM⟩ := out_whole R (a := a2) (b := b2) (c := c2) (d := d2) w hw (by omega) ha2 hb2 hc2 hd2
  rw [← app_nil] at y2 o2
  rw [o1, o2, o3]
  refine ⟨y1, y2, ?_, ?_, ?_⟩
  · rw [S_size]; simp; omega
  · rw [S_size]; simp; omega
  · rw [plainOf_whole wK hwK, plainOf_whole wM hwM, xK, xM, xG, seenTo_sum, seenTo_sum, seenTo_sum]
    have hi : ((H.drop 12).take 8).length = 8 := by simp; omega
    have lk := (load_two (h := hdL H) (g := hdL G) (P := P) (ips := (H.drop 12).take 8) (a := a) (b := b) (c := c) (d := d) (a2 := a2) (b2 := b2) (c2 := c2) (d2 := d2) hw hi hb hd hb2 hd2).1
    rw [← eQ, ← eV, ← iG, ← xG, ← eU] at lk
    congr 1
    exact Like.plain (H := K) (G := M) lk (by omega) (by omega) (by rw [eK, eM, eG, zero_twice _ _ _ _ h20])
theorem rw_back {s : ByteArray} {a b c d : Int} (h : seenWhy s = 0) (hl : 2 < (seenOf s).l) (ha : 0 ≤ a ∧ a ≤ 4294967295) (hb : 0 ≤ b ∧ b ≤ 65535) (hc : 0 ≤ c ∧ c ≤ 4294967295) (hd : 0 ≤ d ∧ d ≤ 65535) (u : ByteArray) (hu : rwOut (rwOut s a b c d) (seenOf s).t.a (seenOf s).t.b (seenOf s).t.c (seenOf s).t.d = u) :
    rwWhy s = 0 ∧ rwWhy (rwOut s a b c d) = 0 ∧ 20 ≤ u.size ∧ u.size ≤ s.size ∧ at_ (L u) 8 = at_ (L s) 8 - 2 ∧ plainOf u = plainOf (s.extract 0 u.size) := by
  obtain ⟨H, P, R, rfl, w, hw, hx, h8⟩ := taken_whole h
  rw [h8] at hl
  have h20 := w.h20
  obtain ⟨ea, ec, _⟩ := load_ends (hdL H) (S P)
  obtain ⟨hb2, hd2⟩ := load_ports (hdL H) (S P)
  have ha2 : 0 ≤ (loadSeen (hdL H) (S P)).t.a ∧ (loadSeen (hdL H) (S P)).t.a ≤ 4294967295 := by rw [ea]; exact be32_bd _ _
  have hc2 : 0 ≤ (loadSeen (hdL H) (S P)).t.c ∧ (loadSeen (hdL H) (S P)).t.c ≤ 4294967295 := by rw [ec]; exact be32_bd _ _
  rw [hx] at hu
  obtain ⟨G, Q, wG, eG, eQ, y1, o1, zG, zQ, G8, G9, hwG, xG, iG⟩ := out_whole R (a := a) (b := b) (c := c) (d := d) w hw (by omega) ha hb hc hd
  obtain ⟨K, U, wK, eK, eU, y2, o2, zK, zU, K8, K9, hwK, xK, iK⟩ := out_whole [] (a := (loadSeen (hdL H) (S P)).t.a) (b := (loadSeen (hdL H) (S P)).t.b) (c := (loadSeen (hdL H) (S P)).t.c) (d := (loadSeen (hdL H) (S P)).t.d) wG hwG (by omega) ha2 hb2 hc2 hd2
  rw [← app_nil] at y2 o2
  rw [o1, o2] at hu
  subst hu
  rw [o1]
  have zu : (S (K ++ U)).size = H.length + P.length := by rw [S_size]; simp; omega
  have zs : (S (H ++ P ++ R)).size = H.length + P.length + R.length := by rw [S_size]; simp; omega
  have ex : (S (H ++ P ++ R)).extract 0 (S (K ++ U)).size = S (H ++ P) := by
    rw [← S_L ((S (H ++ P ++ R)).extract _ _), L_to, zu, L_S, List.take_left' (by simp)]
  refine ⟨y1, y2, by omega, by omega, ?_, ?_⟩
  · rw [L_S, L_S, List.append_assoc, at_left (by omega), at_left (by omega)]; omega
  · rw [ex, plainOf_whole wK hwK, plainOf_whole w hw, xK, xG, seenTo_sum, seenTo_sum]
    have hi : ((H.drop 12).take 8).length = 8 := by simp; omega
    have lk := (load_two (h := hdL H) (g := hdL G) (P := P) (ips := (H.drop 12).take 8) (a := a) (b := b) (c := c) (d := d) (a2 := (loadSeen (hdL H) (S P)).t.a) (b2 := (loadSeen (hdL H) (S P)).t.b) (c2 := (loadSeen (hdL H) (S P)).t.c) (d2 := (loadSeen (hdL H) (S P)).t.d) hw hi hb hd hb2 hd2).2 (by rw [ea, ec]; exact ips_self h20) rfl rfl
    rw [← eQ, ← iG, ← xG, ← eU] at lk
    congr 1
    refine Like.plain (H := K) (G := H) lk (by omega) (by omega) ?_
    rw [eK, eG, ea, ec]
    exact zero_back a c h20

/-- the places in which a packet that was changed may be another one -/
def okAt (x : Seen) (own k i : Nat) : Prop := (8 ≤ i ∧ i < 20 ∧ i ≠ 9) ∨ (x.t.p ≠ 1 ∧ own ≤ i ∧ i < own + 4) ∨ (x.t.p = 1 ∧ 0 < k ∧ own + 4 ≤ i ∧ i < own + 6) ∨ (k ≠ 0 ∧ (i = k ∨ i = k + 1))
theorem load_at {h : Hd} {P ips : List UInt8} {a b c d : Int} (hw : loadWhy h.p (S P) = 0) (own j : Nat) :
    at_ (loadNew (loadSeen h (S P)) P ips a b c d) j = at_ P j ∨ okAt (loadSeen h (S P)) own (sumAtL (loadSeen h (S P)) own) (own + j) := by
  rcases load_cases hw with ⟨hp, ht⟩ | ⟨hp, ht⟩ | ⟨hp, h8, ht⟩
  · have hz := tcpIs_len ht
    rw [seen_tcp hp hz]
    unfold loadNew sumAtL okAt
    rw [if_pos rfl, if_pos rfl]
    simp only
    by_cases hj : 4 ≤ j ∧ (j < 16 ∨ 18 ≤ j)
    · left; exact flow_at (by omega) (by omega) hj.1 hj.2
    · right; omega
  · have hz := udpIs_len ht
    rw [seen_udp hp hz]
    unfold loadNew sumAtL okAt
    rw [if_neg (by dsimp only; decide), if_pos rfl, if_neg (by dsimp only; decide), if_pos rfl]
    simp only
    by_cases hj : 4 ≤ j ∧ (j < 6 ∨ 8 ≤ j)
    · left; exact flow_at (by omega) (by omega) hj.1 hj.2
    · right; omega
  · have ask : ∀ id, at_ (queryOf P id) j = at_ P j ∨ (2 ≤ j ∧ j < 6) := by
      intro id
      by_cases hj : j < 2 ∨ 6 ≤ j
      · left; exact query_at h8 hj
      · right; omega
    rw [seen_msg hp h8]
    by_cases ha : qAsk (msgOf (S P)) = true
    · rw [if_pos ha]
      unfold loadNew sumAtL okAt
      rw [if_neg (by dsimp only; decide), if_neg (by dsimp only; decide), if_neg (by dsimp only; decide), if_pos rfl, if_neg (by dsimp only; decide), if_neg (by dsimp only; decide), if_neg (by dsimp only; decide)]
      rcases ask b with q | q
      · exact Or.inl q
      · by_cases h4 : j < 4
        · exact Or.inr (Or.inr (Or.inr (Or.inr ⟨by omega, by omega⟩)))
        · exact Or.inr (Or.inr (Or.inr (Or.inl ⟨rfl, by omega, by omega, by omega⟩)))
    rw [if_neg ha]
    by_cases hq : qIs (msgOf (S P)) = true
    · rw [if_pos hq]
      unfold loadNew sumAtL okAt
      rw [if_neg (by dsimp only; decide), if_neg (by dsimp only; decide), if_neg (by dsimp only; decide), if_neg (by dsimp only; decide), if_neg (by dsimp only; decide), if_neg (by dsimp only; decide), if_neg (by dsimp only; decide)]
      rcases ask d with q | q
      · exact Or.inl q
      · by_cases h4 : j < 4
        · exact Or.inr (Or.inr (Or.inr (Or.inr ⟨by omega, by omega⟩)))
        · exact Or.inr (Or.inr (Or.inr (Or.inl ⟨rfl, by omega, by omega, by omega⟩)))
    · rw [if_neg hq]
      left
      unfold loadNew
      rw [if_neg (by dsimp only; decide), if_neg (by dsimp only; decide), if_pos rfl]
theorem rw_seen {s : ByteArray} {a b c d : Int} (h : seenWhy s = 0) (hl : 1 < (seenOf s).l) (ha : 0 ≤ a ∧ a ≤ 4294967295) (hb : 0 ≤ b ∧ b ≤ 65535) (hc : 0 ≤ c ∧ c ≤ 4294967295) (hd : 0 ≤ d ∧ d ≤ 65535) (t : ByteArray) (ht : rwOut s a b c d = t) :
    rwWhy s = 0 ∧ seenWhy t = 0 ∧ seenOf t = seenTo (seenOf s) a b c d ∧ 20 ≤ t.size ∧ t.size ≤ s.size ∧ (∀ i, i < t.size → at_ (L s) i = at_ (L t) i ∨ okAt (seenOf s) (ipOwn (L t)).toNat (sumAtL (seenOf t) (ipOwn (L t)).toNat) i) := by
  obtain ⟨H, P, R, rfl, w, hw, hx, h8⟩ := taken_whole h
  rw [h8] at hl
  have h20 := w.h20
  obtain ⟨G, Q, wG, eG, eQ, y1, o1, zG, zQ, G8, G9, hwG, xG, iG⟩ := out_whole R (a := a) (b := b) (c := c) (d := d) w hw (by omega) ha hb hc hd
  rw [o1] at ht
  subst ht
  obtain ⟨e1, e2, e3⟩ := seen_whole [] wG
  rw [← app_nil] at e1 e2
  have hs : seenOf (S (G ++ Q)) = seenTo (seenOf (S (H ++ P ++ R))) a b c d := by rw [e2 hwG, xG, hx]
  have ho : (ipOwn (L (S (G ++ Q)))).toNat = H.length := by rw [L_S, own_app (by omega), wG.own, Int.toNat_natCast, zG]
  refine ⟨y1, by rw [e1]; exact hwG, hs, by rw [S_size]; simp; omega, by rw [S_size, S_size]; simp; omega, ?_⟩
  intro i hi
  rw [S_size] at hi
  simp at hi
  rw [hs, seenTo_sum, ho, hx, L_S, L_S, List.append_assoc]
  by_cases hH : i < H.length
  · rw [at_left hH, at_left (by omega)]
    by_cases hk : i < 8 ∨ i = 9 ∨ 20 ≤ i
    · left; rw [eG, head_at a c h20 hk]
    · right; left; omega
  · obtain ⟨j, rfl⟩ : ∃ j, i = H.length + j := ⟨i - H.length, by omega⟩
    rw [at_right (a := H) (by omega), at_right (a := G) (by omega), at_left (a := P) (by omega), zG, show H.length + j - H.length = j from by omega, eQ]
    rcases load_at (a := a) (b := b) (c := c) (d := d) (ips := (H.drop 12).take 8) (h := hdL H) hw H.length j with q | q
    · left; exact q.symm
    · right; exact q
end Go.Proofs.YtpidgmamollmgaaDoor
end
