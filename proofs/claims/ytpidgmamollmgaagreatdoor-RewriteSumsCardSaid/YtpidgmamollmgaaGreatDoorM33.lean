/- Several texts of this claim, one behind the other. -/
import Derived.Test.YtpidgmamollmgaaGreatDoorM25
import Derived.Test.YtpidgmamollmgaaGreatDoorM32
import Derived.Test.YtpidgmamollmgaaGreatDoorM10

section
/- taken, sumAt walked. -/
set_option linter.unusedVariables false
set_option linter.unusedSimpArgs false
namespace Go.Proofs.YtpidgmamollmgaaGreatDoor
open Go.RowKit
attribute [local go_sem] Oper.semAt_some

set_option maxRecDepth 100000 in
set_option maxHeartbeats 2000000 in
theorem tk_why (s : ByteArray) (n x0 x1 x2 x3 x4 x5 x6 x8 r : Int) (x7 : Bool) (w : World) (K0 : Kinds w) (q1 : (r == 0) = false)
    (c1 : ∀ W, Kinds W → Calls Tryz.prog 12 #[.string s] W (Ret (.tuple #[.agg #[.int .u8 x0, .int .u32 x1, .int .u16 x2, .int .u32 x3, .int .u16 x4, .int .i64 x5, .int .u8 x6, .bool x7, .int .u8 x8], .int .i64 r]) W)) :
    Calls Tryz.prog 8 #[.string s, .int .u8 n] w (Ret (.tuple #[.agg #[.int .u8 x0, .int .u32 x1, .int .u16 x2, .int .u32 x3, .int .u16 x4, .int .i64 x5, .int .u8 x6, .bool x7, .int .u8 x8], .bool false]) w) := by
  have C1 := hide c1; have KK := hide K0
  clear c1 K0
  go_enter Tryz.func8, Tryz.ntmps8
  have d0 := Cells.new w #[.int .u8 0, .int .u32 0, .int .u16 0, .int .u32 0, .int .u16 0, .int .i64 0, .int .u8 0, .bool false, .int .u8 0] 38
  go_wp2_with fail
  (with_reducible refine (C1.out _ (KK.out.below (fresh_below _ _))).mono ?_)
  rintro e w1 ⟨rfl, b1⟩
  have d1 := Cells.alloc (Cells.below b1 d0) (.cells #[.int .u8 x0, .int .u32 x1, .int .u16 x2, .int .u32 x3, .int .u16 x4, .int .i64 x5, .int .u8 x6, .bool x7, .int .u8 x8] 38)
  have e1 := Cells.new w1 #[.int .u8 x0, .int .u32 x1, .int .u16 x2, .int .u32 x3, .int .u16 x4, .int .i64 x5, .int .u8 x6, .bool x7, .int .u8 x8] 38
  replace b1 : Below w.heap.size w (w1.alloc (.cells #[.int .u8 x0, .int .u32 x1, .int .u16 x2, .int .u32 x3, .int .u16 x4, .int .i64 x5, .int .u8 x6, .bool x7, .int .u8 x8] 38)) := bstep (bstep (fresh_below _ _) b1) (fresh_below _ _)
  clear d0
  have xd1_0 : ((w1.alloc (.cells #[.int .u8 x0, .int .u32 x1, .int .u16 x2, .int .u32 x3, .int .u16 x4, .int .i64 x5, .int .u8 x6, .bool x7, .int .u8 x8] 38))).cell? ⟨w.heap.size, 0, none⟩ = some (.int .u8 0) := d1.at_ 0
  have xd1_1 : ((w1.alloc (.cells #[.int .u8 x0, .int .u32 x1, .int .u16 x2, .int .u32 x3, .int .u16 x4, .int .i64 x5, .int .u8 x6, .bool x7, .int .u8 x8] 38))).cell? ⟨w.heap.size, 1, none⟩ = some (.int .u32 0) := d1.at_ 1
  have xd1_2 : ((w1.alloc (.cells #[.int .u8 x0, .int .u32 x1, .int .u16 x2, .int .u32 x3, .int .u16 x4, .int .i64 x5, .int .u8 x6, .bool x7, .int .u8 x8] 38))).cell? ⟨w.heap.size, 2, none⟩ = some (.int .u16 0) := d1.at_ 2
  have xd1_3 : ((w1.alloc (.cells #[.int .u8 x0, .int .u32 x1, .int .u16 x2, .int .u32 x3, .int .u16 x4, .int .i64 x5, .int .u8 x6, .bool x7, .int .u8 x8] 38))).cell? ⟨w.heap.size, 3, none⟩ = some (.int .u32 0) := d1.at_ 3
  have xd1_4 : ((w1.alloc (.cells #[.int .u8 x0, .int .u32 x1, .int .u16 x2, .int .u32 x3, .int .u16 x4, .int .i64 x5, .int .u8 x6, .bool x7, .int .u8 x8] 38))).cell? ⟨w.heap.size, 4, none⟩ = some (.int .u16 0) := d1.at_ 4
  have xd1_5 : ((w1.alloc (.cells #[.int .u8 x0, .int .u32 x1, .int .u16 x2, .int .u32 x3, .int .u16 x4, .int .i64 x5, .int .u8 x6, .bool x7, .int .u8 x8] 38))).cell? ⟨w.heap.size, 5, none⟩ = some (.int .i64 0) := d1.at_ 5
  have xd1_6 : ((w1.alloc (.cells #[.int .u8 x0, .int .u32 x1, .int .u16 x2, .int .u32 x3, .int .u16 x4, .int .i64 x5, .int .u8 x6, .bool x7, .int .u8 x8] 38))).cell? ⟨w.heap.size, 6, none⟩ = some (.int .u8 0) := d1.at_ 6
  have xd1_7 : ((w1.alloc (.cells #[.int .u8 x0, .int .u32 x1, .int .u16 x2, .int .u32 x3, .int .u16 x4, .int .i64 x5, .int .u8 x6, .bool x7, .int .u8 x8] 38))).cell? ⟨w.heap.size, 7, none⟩ = some (.bool false) := d1.at_ 7
  have xd1_8 : ((w1.alloc (.cells #[.int .u8 x0, .int .u32 x1, .int .u16 x2, .int .u32 x3, .int .u16 x4, .int .i64 x5, .int .u8 x6, .bool x7, .int .u8 x8] 38))).cell? ⟨w.heap.size, 8, none⟩ = some (.int .u8 0) := d1.at_ 8
  have yd1_0 : ((w1.alloc (.cells #[.int .u8 x0, .int .u32 x1, .int .u16 x2, .int .u32 x3, .int .u16 x4, .int .i64 x5, .int .u8 x6, .bool x7, .int .u8 x8] 38))).frozen? ⟨w.heap.size, 0, none⟩ = false := d1.free 0
  have yd1_1 : ((w1.alloc (.cells #[.int .u8 x0, .int .u32 x1, .int .u16 x2, .int .u32 x3, .int .u16 x4, .int .i64 x5, .int .u8 x6, .bool x7, .int .u8 x8] 38))).frozen? ⟨w.heap.size, 1, none⟩ = false := d1.free 1
  have yd1_2 : ((w1.alloc (.cells #[.int .u8 x0, .int .u32 x1, .int .u16 x2, .int .u32 x3, .int .u16 x4, .int .i64 x5, .int .u8 x6, .bool x7, .int .u8 x8] 38))).frozen? ⟨w.heap.size, 2, none⟩ = false := d1.free 2
  have yd1_3 : ((w1.alloc (.cells #[.int .u8 x0, .int .u32 x1, .int .u16 x2, .int .u32 x3, .int .u16 x4, .int .i64 x5, .int .u8 x6, .bool x7, .int .u8 x8] 38))).frozen? ⟨w.heap.size, 3, none⟩ = false := d1.free 3
  have yd1_4 : ((w1.alloc (.cells #[.int .u8 x0, .int .u32 x1, .int .u16 x2, .int .u32 x3, .int .u16 x4, .int .i64 x5, .int .u8 x6, .bool x7, .int .u8 x8] 38))).frozen? ⟨w.heap.size, 4, none⟩ = false := d1.free 4
  have yd1_5 : ((w1.alloc (.cells #[.int .u8 x0, .int .u32 x1, .int .u16 x2, .int .u32 x3, .int .u16 x4, .int .i64 x5, .int .u8 x6, .bool x7, .int .u8 x8] 38))).frozen? ⟨w.heap.size, 5, none⟩ = false := d1.free 5
  have yd1_6 : ((w1.alloc (.cells #[.int .u8 x0, .int .u32 x1, .int .u16 x2, .int .u32 x3, .int .u16 x4, .int .i64 x5, .int .u8 x6, .bool x7, .int .u8 x8] 38))).frozen? ⟨w.heap.size, 6, none⟩ = false := d1.free 6
  have yd1_7 : ((w1.alloc (.cells #[.int .u8 x0, .int .u32 x1, .int .u16 x2, .int .u32 x3, .int .u16 x4, .int .i64 x5, .int .u8 x6, .bool x7, .int .u8 x8] 38))).frozen? ⟨w.heap.size, 7, none⟩ = false := d1.free 7
  have yd1_8 : ((w1.alloc (.cells #[.int .u8 x0, .int .u32 x1, .int .u16 x2, .int .u32 x3, .int .u16 x4, .int .i64 x5, .int .u8 x6, .bool x7, .int .u8 x8] 38))).frozen? ⟨w.heap.size, 8, none⟩ = false := d1.free 8
  have xe1_0 : ((w1.alloc (.cells #[.int .u8 x0, .int .u32 x1, .int .u16 x2, .int .u32 x3, .int .u16 x4, .int .i64 x5, .int .u8 x6, .bool x7, .int .u8 x8] 38))).cell? ⟨w1.heap.size, 0, none⟩ = some (.int .u8 x0) := e1.at_ 0
  have xe1_1 : ((w1.alloc (.cells #[.int .u8 x0, .int .u32 x1, .int .u16 x2, .int .u32 x3, .int .u16 x4, .int .i64 x5, .int .u8 x6, .bool x7, .int .u8 x8] 38))).cell? ⟨w1.heap.size, 1, none⟩ = some (.int .u32 x1) := e1.at_ 1
  have xe1_2 : ((w1.alloc (.cells #[.int .u8 x0, .int .u32 x1, .int .u16 x2, .int .u32 x3, .int .u16 x4, .int .i64 x5, .int .u8 x6, .bool x7, .int .u8 x8] 38))).cell? ⟨w1.heap.size, 2, none⟩ = some (.int .u16 x2) := e1.at_ 2
  have xe1_3 : ((w1.alloc (.cells #[.int .u8 x0, .int .u32 x1, .int .u16 x2, .int .u32 x3, .int .u16 x4, .int .i64 x5, .int .u8 x6, .bool x7, .int .u8 x8] 38))).cell? ⟨w1.heap.size, 3, none⟩ = some (.int .u32 x3) := e1.at_ 3
  have xe1_4 : ((w1.alloc (.cells #[.int .u8 x0, .int .u32 x1, .int .u16 x2, .int .u32 x3, .int .u16 x4, .int .i64 x5, .int .u8 x6, .bool x7, .int .u8 x8] 38))).cell? ⟨w1.heap.size, 4, none⟩ = some (.int .u16 x4) := e1.at_ 4
  have xe1_5 : ((w1.alloc (.cells #[.int .u8 x0, .int .u32 x1, .int .u16 x2, .int .u32 x3, .int .u16 x4, .int .i64 x5, .int .u8 x6, .bool x7, .int .u8 x8] 38))).cell? ⟨w1.heap.size, 5, none⟩ = some (.int .i64 x5) := e1.at_ 5
  have xe1_6 : ((w1.alloc (.cells #[.int .u8 x0, .int .u32 x1, .int .u16 x2, .int .u32 x3, .int .u16 x4, .int .i64 x5, .int .u8 x6, .bool x7, .int .u8 x8] 38))).cell? ⟨w1.heap.size, 6, none⟩ = some (.int .u8 x6) := e1.at_ 6
  have xe1_7 : ((w1.alloc (.cells #[.int .u8 x0, .int .u32 x1, .int .u16 x2, .int .u32 x3, .int .u16 x4, .int .i64 x5, .int .u8 x6, .bool x7, .int .u8 x8] 38))).cell? ⟨w1.heap.size, 7, none⟩ = some (.bool x7) := e1.at_ 7
  have xe1_8 : ((w1.alloc (.cells #[.int .u8 x0, .int .u32 x1, .int .u16 x2, .int .u32 x3, .int .u16 x4, .int .i64 x5, .int .u8 x6, .bool x7, .int .u8 x8] 38))).cell? ⟨w1.heap.size, 8, none⟩ = some (.int .u8 x8) := e1.at_ 8
  have D1 := hide d1; have B1 := hide b1
  clear d1 b1 e1
  go_wp2_with fail
  have d1 := D1.out; have b1 := B1.out
  generalize w1.alloc (.cells #[.int .u8 x0, .int .u32 x1, .int .u16 x2, .int .u32 x3, .int .u16 x4, .int .i64 x5, .int .u8 x6, .bool x7, .int .u8 x8] 38) = W at *
  have r5 := (Cells.put9 d1 (.int .u8 x0) (.int .u32 x1) (.int .u16 x2) (.int .u32 x3) (.int .u16 x4) (.int .i64 x5) (.int .u8 x6) (.bool x7) (.int .u8 x8))
  have b5 := (Below.put9 b1 (b := w.heap.size) (by first | exact Nat.le_refl _ | omega) (.int .u8 x0) (.int .u32 x1) (.int .u16 x2) (.int .u32 x3) (.int .u16 x4) (.int .i64 x5) (.int .u8 x6) (.bool x7) (.int .u8 x8))
  have HR5 := hide r5; have HB5 := hide b5
  clear r5 b5 d1
  generalize (((((((((W.setCell ⟨w.heap.size, 0, none⟩ (.int .u8 x0)).setCell ⟨w.heap.size, 1, none⟩ (.int .u32 x1)).setCell ⟨w.heap.size, 2, none⟩ (.int .u16 x2)).setCell ⟨w.heap.size, 3, none⟩ (.int .u32 x3)).setCell ⟨w.heap.size, 4, none⟩ (.int .u16 x4)).setCell ⟨w.heap.size, 5, none⟩ (.int .i64 x5)).setCell ⟨w.heap.size, 6, none⟩ (.int .u8 x6)).setCell ⟨w.heap.size, 7, none⟩ (.bool x7)).setCell ⟨w.heap.size, 8, none⟩ (.int .u8 x8)) = W5 at *
  have r5 := HR5.out; have b5 := HB5.out
  clear HR5 HB5
  have xr5_0 : W5.cell? ⟨w.heap.size, 0, none⟩ = some (.int .u8 x0) := r5.at_ 0
  have xr5_1 : W5.cell? ⟨w.heap.size, 1, none⟩ = some (.int .u32 x1) := r5.at_ 1
  have xr5_2 : W5.cell? ⟨w.heap.size, 2, none⟩ = some (.int .u16 x2) := r5.at_ 2
  have xr5_3 : W5.cell? ⟨w.heap.size, 3, none⟩ = some (.int .u32 x3) := r5.at_ 3
  have xr5_4 : W5.cell? ⟨w.heap.size, 4, none⟩ = some (.int .u16 x4) := r5.at_ 4
  have xr5_5 : W5.cell? ⟨w.heap.size, 5, none⟩ = some (.int .i64 x5) := r5.at_ 5
  have xr5_6 : W5.cell? ⟨w.heap.size, 6, none⟩ = some (.int .u8 x6) := r5.at_ 6
  have xr5_7 : W5.cell? ⟨w.heap.size, 7, none⟩ = some (.bool x7) := r5.at_ 7
  have xr5_8 : W5.cell? ⟨w.heap.size, 8, none⟩ = some (.int .u8 x8) := r5.at_ 8
  (try simp only [Exit.inBlock, Exit.then]); refine bodyPost_ret (by simp [results, Tryz.results8, go_sem, *]; try rfl) rfl ?_
  first | exact ⟨rfl, b5⟩ | exact ⟨by rw [decide_eq_false (by omega)], b5⟩

set_option maxRecDepth 100000 in
set_option maxHeartbeats 2000000 in
theorem tk_ttl (s : ByteArray) (n x0 x1 x2 x3 x4 x5 x6 x8 r : Int) (x7 : Bool) (w : World) (K0 : Kinds w) (q2 : ¬ n < x8)
    (c1 : ∀ W, Kinds W → Calls Tryz.prog 12 #[.string s] W (Ret (.tuple #[.agg #[.int .u8 x0, .int .u32 x1, .int .u16 x2, .int .u32 x3, .int .u16 x4, .int .i64 x5, .int .u8 x6, .bool x7, .int .u8 x8], .int .i64 0]) W)) :
    Calls Tryz.prog 8 #[.string s, .int .u8 n] w (Ret (.tuple #[.agg #[.int .u8 x0, .int .u32 x1, .int .u16 x2, .int .u32 x3, .int .u16 x4, .int .i64 x5, .int .u8 x6, .bool x7, .int .u8 x8], .bool false]) w) := by
  have C1 := hide c1; have KK := hide K0
  clear c1 K0
  go_enter Tryz.func8, Tryz.ntmps8
  have d0 := Cells.new w #[.int .u8 0, .int .u32 0, .int .u16 0, .int .u32 0, .int .u16 0, .int .i64 0, .int .u8 0, .bool false, .int .u8 0] 38
  go_wp2_with fail
  (with_reducible refine (C1.out _ (KK.out.below (fresh_below _ _))).mono ?_)
  rintro e w1 ⟨rfl, b1⟩
  have d1 := Cells.alloc (Cells.below b1 d0) (.cells #[.int .u8 x0, .int .u32 x1, .int .u16 x2, .int .u32 x3, .int .u16 x4, .int .i64 x5, .int .u8 x6, .bool x7, .int .u8 x8] 38)
  have e1 := Cells.new w1 #[.int .u8 x0, .int .u32 x1, .int .u16 x2, .int .u32 x3, .int .u16 x4, .int .i64 x5, .int .u8 x6, .bool x7, .int .u8 x8] 38
  replace b1 : Below w.heap.size w (w1.alloc (.cells #[.int .u8 x0, .int .u32 x1, .int .u16 x2, .int .u32 x3, .int .u16 x4, .int .i64 x5, .int .u8 x6, .bool x7, .int .u8 x8] 38)) := bstep (bstep (fresh_below _ _) b1) (fresh_below _ _)
  clear d0
  have xd1_0 : ((w1.alloc (.cells #[.int .u8 x0, .int .u32 x1, .int .u16 x2, .int .u32 x3, .int .u16 x4, .int .i64 x5, .int .u8 x6, .bool x7, .int .u8 x8] 38))).cell? ⟨w.heap.size, 0, none⟩ = some (.int .u8 0) := d1.at_ 0
  have xd1_1 : ((w1.alloc (.cells #[.int .u8 x0, .int .u32 x1, .int .u16 x2, .int .u32 x3, .int .u16 x4, .int .i64 x5, .int .u8 x6, .bool x7, .int .u8 x8] 38))).cell? ⟨w.heap.size, 1, none⟩ = some (.int .u32 0) := d1.at_ 1
  have xd1_2 : ((w1.alloc (.cells #[.int .u8 x0, .int .u32 x1, .int .u16 x2, .int .u32 x3, .int .u16 x4, .int .i64 x5, .int .u8 x6, .bool x7, .int .u8 x8] 38))).cell? ⟨w.heap.size, 2, none⟩ = some (.int .u16 0) := d1.at_ 2
  have xd1_3 : ((w1.alloc (.cells #[.int .u8 x0, .int .u32 x1, .int .u16 x2, .int .u32 x3, .int .u16 x4, .int .i64 x5, .int .u8 x6, .bool x7, .int .u8 x8] 38))).cell? ⟨w.heap.size, 3, none⟩ = some (.int .u32 0) := d1.at_ 3
  have xd1_4 : ((w1.alloc (.cells #[.int .u8 x0, .int .u32 x1, .int .u16 x2, .int .u32 x3, .int .u16 x4, .int .i64 x5, .int .u8 x6, .bool x7, .int .u8 x8] 38))).cell? ⟨w.heap.size, 4, none⟩ = some (.int .u16 0) := d1.at_ 4
  have xd1_5 : ((w1.alloc (.cells #[.int .u8 x0, .int .u32 x1, .int .u16 x2, .int .u32 x3, .int .u16 x4, .int .i64 x5, .int .u8 x6, .bool x7, .int .u8 x8] 38))).cell? ⟨w.heap.size, 5, none⟩ = some (.int .i64 0) := d1.at_ 5
  have xd1_6 : ((w1.alloc (.cells #[.int .u8 x0, .int .u32 x1, .int .u16 x2, .int .u32 x3, .int .u16 x4, .int .i64 x5, .int .u8 x6, .bool x7, .int .u8 x8] 38))).cell? ⟨w.heap.size, 6, none⟩ = some (.int .u8 0) := d1.at_ 6
  have xd1_7 : ((w1.alloc (.cells #[.int .u8 x0, .int .u32 x1, .int .u16 x2, .int .u32 x3, .int .u16 x4, .int .i64 x5, .int .u8 x6, .bool x7, .int .u8 x8] 38))).cell? ⟨w.heap.size, 7, none⟩ = some (.bool false) := d1.at_ 7
  have xd1_8 : ((w1.alloc (.cells #[.int .u8 x0, .int .u32 x1, .int .u16 x2, .int .u32 x3, .int .u16 x4, .int .i64 x5, .int .u8 x6, .bool x7, .int .u8 x8] 38))).cell? ⟨w.heap.size, 8, none⟩ = some (.int .u8 0) := d1.at_ 8
  have yd1_0 : ((w1.alloc (.cells #[.int .u8 x0, .int .u32 x1, .int .u16 x2, .int .u32 x3, .int .u16 x4, .int .i64 x5, .int .u8 x6, .bool x7, .int .u8 x8] 38))).frozen? ⟨w.heap.size, 0, none⟩ = false := d1.free 0
  have yd1_1 : ((w1.alloc (.cells #[.int .u8 x0, .int .u32 x1, .int .u16 x2, .int .u32 x3, .int .u16 x4, .int .i64 x5, .int .u8 x6, .bool x7, .int .u8 x8] 38))).frozen? ⟨w.heap.size, 1, none⟩ = false := d1.free 1
  have yd1_2 : ((w1.alloc (.cells #[.int .u8 x0, .int .u32 x1, .int .u16 x2, .int .u32 x3, .int .u16 x4, .int .i64 x5, .int .u8 x6, .bool x7, .int .u8 x8] 38))).frozen? ⟨w.heap.size, 2, none⟩ = false := d1.free 2
  have yd1_3 : ((w1.alloc (.cells #[.int .u8 x0, .int .u32 x1, .int .u16 x2, .int .u32 x3, .int .u16 x4, .int .i64 x5, .int .u8 x6, .bool x7, .int .u8 x8] 38))).frozen? ⟨w.heap.size, 3, none⟩ = false := d1.free 3
  have yd1_4 : ((w1.alloc (.cells #[.int .u8 x0, .int .u32 x1, .int .u16 x2, .int .u32 x3, .int .u16 x4, .int .i64 x5, .int .u8 x6, .bool x7, .int .u8 x8] 38))).frozen? ⟨w.heap.size, 4, none⟩ = false := d1.free 4
  have yd1_5 : ((w1.alloc (.cells #[.int .u8 x0, .int .u32 x1, .int .u16 x2, .int .u32 x3, .int .u16 x4, .int .i64 x5, .int .u8 x6, .bool x7, .int .u8 x8] 38))).frozen? ⟨w.heap.size, 5, none⟩ = false := d1.free 5
  have yd1_6 : ((w1.alloc (.cells #[.int .u8 x0, .int .u32 x1, .int .u16 x2, .int .u32 x3, .int .u16 x4, .int .i64 x5, .int .u8 x6, .bool x7, .int .u8 x8] 38))).frozen? ⟨w.heap.size, 6, none⟩ = false := d1.free 6
  have yd1_7 : ((w1.alloc (.cells #[.int .u8 x0, .int .u32 x1, .int .u16 x2, .int .u32 x3, .int .u16 x4, .int .i64 x5, .int .u8 x6, .bool x7, .int .u8 x8] 38))).frozen? ⟨w.heap.size, 7, none⟩ = false := d1.free 7
  have yd1_8 : ((w1.alloc (.cells #[.int .u8 x0, .int .u32 x1, .int .u16 x2, .int .u32 x3, .int .u16 x4, .int .i64 x5, .int .u8 x6, .bool x7, .int .u8 x8] 38))).frozen? ⟨w.heap.size, 8, none⟩ = false := d1.free 8
  have xe1_0 : ((w1.alloc (.cells #[.int .u8 x0, .int .u32 x1, .int .u16 x2, .int .u32 x3, .int .u16 x4, .int .i64 x5, .int .u8 x6, .bool x7, .int .u8 x8] 38))).cell? ⟨w1.heap.size, 0, none⟩ = some (.int .u8 x0) := e1.at_ 0
  have xe1_1 : ((w1.alloc (.cells #[.int .u8 x0, .int .u32 x1, .int .u16 x2, .int .u32 x3, .int .u16 x4, .int .i64 x5, .int .u8 x6, .bool x7, .int .u8 x8] 38))).cell? ⟨w1.heap.size, 1, none⟩ = some (.int .u32 x1) := e1.at_ 1
  have xe1_2 : ((w1.alloc (.cells #[.int .u8 x0, .int .u32 x1, .int .u16 x2, .int .u32 x3, .int .u16 x4, .int .i64 x5, .int .u8 x6, .bool x7, .int .u8 x8] 38))).cell? ⟨w1.heap.size, 2, none⟩ = some (.int .u16 x2) := e1.at_ 2
  have xe1_3 : ((w1.alloc (.cells #[.int .u8 x0, .int .u32 x1, .int .u16 x2, .int .u32 x3, .int .u16 x4, .int .i64 x5, .int .u8 x6, .bool x7, .int .u8 x8] 38))).cell? ⟨w1.heap.size, 3, none⟩ = some (.int .u32 x3) := e1.at_ 3
  have xe1_4 : ((w1.alloc (.cells #[.int .u8 x0, .int .u32 x1, .int .u16 x2, .int .u32 x3, .int .u16 x4, .int .i64 x5, .int .u8 x6, .bool x7, .int .u8 x8] 38))).cell? ⟨w1.heap.size, 4, none⟩ = some (.int .u16 x4) := e1.at_ 4
  have xe1_5 : ((w1.alloc (.cells #[.int .u8 x0, .int .u32 x1, .int .u16 x2, .int .u32 x3, .int .u16 x4, .int .i64 x5, .int .u8 x6, .bool x7, .int .u8 x8] 38))).cell? ⟨w1.heap.size, 5, none⟩ = some (.int .i64 x5) := e1.at_ 5
  have xe1_6 : ((w1.alloc (.cells #[.int .u8 x0, .int .u32 x1, .int .u16 x2, .int .u32 x3, .int .u16 x4, .int .i64 x5, .int .u8 x6, .bool x7, .int .u8 x8] 38))).cell? ⟨w1.heap.size, 6, none⟩ = some (.int .u8 x6) := e1.at_ 6
  have xe1_7 : ((w1.alloc (.cells #[.int .u8 x0, .int .u32 x1, .int .u16 x2, .int .u32 x3, .int .u16 x4, .int .i64 x5, .int .u8 x6, .bool x7, .int .u8 x8] 38))).cell? ⟨w1.heap.size, 7, none⟩ = some (.bool x7) := e1.at_ 7
  have xe1_8 : ((w1.alloc (.cells #[.int .u8 x0, .int .u32 x1, .int .u16 x2, .int .u32 x3, .int .u16 x4, .int .i64 x5, .int .u8 x6, .bool x7, .int .u8 x8] 38))).cell? ⟨w1.heap.size, 8, none⟩ = some (.int .u8 x8) := e1.at_ 8
  have D1 := hide d1; have B1 := hide b1
  clear d1 b1 e1
  go_wp2_with fail
  have d1 := D1.out; have b1 := B1.out
  generalize w1.alloc (.cells #[.int .u8 x0, .int .u32 x1, .int .u16 x2, .int .u32 x3, .int .u16 x4, .int .i64 x5, .int .u8 x6, .bool x7, .int .u8 x8] 38) = W at *
  have r5 := (Cells.put9 d1 (.int .u8 x0) (.int .u32 x1) (.int .u16 x2) (.int .u32 x3) (.int .u16 x4) (.int .i64 x5) (.int .u8 x6) (.bool x7) (.int .u8 x8))
  have b5 := (Below.put9 b1 (b := w.heap.size) (by first | exact Nat.le_refl _ | omega) (.int .u8 x0) (.int .u32 x1) (.int .u16 x2) (.int .u32 x3) (.int .u16 x4) (.int .i64 x5) (.int .u8 x6) (.bool x7) (.int .u8 x8))
  have HR5 := hide r5; have HB5 := hide b5
  clear r5 b5 d1
  generalize (((((((((W.setCell ⟨w.heap.size, 0, none⟩ (.int .u8 x0)).setCell ⟨w.heap.size, 1, none⟩ (.int .u32 x1)).setCell ⟨w.heap.size, 2, none⟩ (.int .u16 x2)).setCell ⟨w.heap.size, 3, none⟩ (.int .u32 x3)).setCell ⟨w.heap.size, 4, none⟩ (.int .u16 x4)).setCell ⟨w.heap.size, 5, none⟩ (.int .i64 x5)).setCell ⟨w.heap.size, 6, none⟩ (.int .u8 x6)).setCell ⟨w.heap.size, 7, none⟩ (.bool x7)).setCell ⟨w.heap.size, 8, none⟩ (.int .u8 x8)) = W5 at *
  have r5 := HR5.out; have b5 := HB5.out
  clear HR5 HB5
  have xr5_0 : W5.cell? ⟨w.heap.size, 0, none⟩ = some (.int .u8 x0) := r5.at_ 0
  have xr5_1 : W5.cell? ⟨w.heap.size, 1, none⟩ = some (.int .u32 x1) := r5.at_ 1
  have xr5_2 : W5.cell? ⟨w.heap.size, 2, none⟩ = some (.int .u16 x2) := r5.at_ 2
  have xr5_3 : W5.cell? ⟨w.heap.size, 3, none⟩ = some (.int .u32 x3) := r5.at_ 3
  have xr5_4 : W5.cell? ⟨w.heap.size, 4, none⟩ = some (.int .u16 x4) := r5.at_ 4
  have xr5_5 : W5.cell? ⟨w.heap.size, 5, none⟩ = some (.int .i64 x5) := r5.at_ 5
  have xr5_6 : W5.cell? ⟨w.heap.size, 6, none⟩ = some (.int .u8 x6) := r5.at_ 6
  have xr5_7 : W5.cell? ⟨w.heap.size, 7, none⟩ = some (.bool x7) := r5.at_ 7
  have xr5_8 : W5.cell? ⟨w.heap.size, 8, none⟩ = some (.int .u8 x8) := r5.at_ 8
  (try simp only [Exit.inBlock, Exit.then]); refine bodyPost_ret (by simp [results, Tryz.results8, go_sem, *]; try rfl) rfl ?_
  first | exact ⟨rfl, b5⟩ | exact ⟨by rw [decide_eq_false (by omega)], b5⟩

set_option maxRecDepth 100000 in
set_option maxHeartbeats 2000000 in
theorem tk_len (s : ByteArray) (n x0 x1 x2 x3 x4 x5 x6 x8 r : Int) (x7 : Bool) (w : World) (K0 : Kinds w) (q2 : n < x8) (q3 : ¬ (20 : Int) ≤ (s.size : Int))
    (c1 : ∀ W, Kinds W → Calls Tryz.prog 12 #[.string s] W (Ret (.tuple #[.agg #[.int .u8 x0, .int .u32 x1, .int .u16 x2, .int .u32 x3, .int .u16 x4, .int .i64 x5, .int .u8 x6, .bool x7, .int .u8 x8], .int .i64 0]) W)) :
    Calls Tryz.prog 8 #[.string s, .int .u8 n] w (Ret (.tuple #[.agg #[.int .u8 x0, .int .u32 x1, .int .u16 x2, .int .u32 x3, .int .u16 x4, .int .i64 x5, .int .u8 x6, .bool x7, .int .u8 x8], .bool false]) w) := by
  have C1 := hide c1; have KK := hide K0
  clear c1 K0
  go_enter Tryz.func8, Tryz.ntmps8
  have d0 := Cells.new w #[.int .u8 0, .int .u32 0, .int .u16 0, .int .u32 0, .int .u16 0, .int .i64 0, .int .u8 0, .bool false, .int .u8 0] 38
  go_wp2_with fail
  (with_reducible refine (C1.out _ (KK.out.below (fresh_below _ _))).mono ?_)
  rintro e w1 ⟨rfl, b1⟩
  have d1 := Cells.alloc (Cells.below b1 d0) (.cells #[.int .u8 x0, .int .u32 x1, .int .u16 x2, .int .u32 x3, .int .u16 x4, .int .i64 x5, .int .u8 x6, .bool x7, .int .u8 x8] 38)
  have e1 := Cells.new w1 #[.int .u8 x0, .int .u32 x1, .int .u16 x2, .int .u32 x3, .int .u16 x4, .int .i64 x5, .int .u8 x6, .bool x7, .int .u8 x8] 38
  replace b1 : Below w.heap.size w (w1.alloc (.cells #[.int .u8 x0, .int .u32 x1, .int .u16 x2, .int .u32 x3, .int .u16 x4, .int .i64 x5, .int .u8 x6, .bool x7, .int .u8 x8] 38)) := bstep (bstep (fresh_below _ _) b1) (fresh_below _ _)
  clear d0
  have xd1_0 : ((w1.alloc (.cells #[.int .u8 x0, .int .u32 x1, .int .u16 x2, .int .u32 x3, .int .u16 x4, .int .i64 x5, .int .u8 x6, .bool x7, .int .u8 x8] 38))).cell? ⟨w.heap.size, 0, none⟩ = some (.int .u8 0) := d1.at_ 0
  have xd1_1 : ((w1.alloc (.cells #[.int .u8 x0, .int .u32 x1, .int .u16 x2, .int .u32 x3, .int .u16 x4, .int .i64 x5, .int .u8 x6, .bool x7, .int .u8 x8] 38))).cell? ⟨w.heap.size, 1, none⟩ = some (.int .u32 0) := d1.at_ 1
  have xd1_2 : ((w1.alloc (.cells #[.int .u8 x0, .int .u32 x1, .int .u16 x2, .int .u32 x3, .int .u16 x4, .int .i64 x5, .int .u8 x6, .bool x7, .int .u8 x8] 38))).cell? ⟨w.heap.size, 2, none⟩ = some (.int .u16 0) := d1.at_ 2
  have xd1_3 : ((w1.alloc (.cells #[.int .u8 x0, .int .u32 x1, .int .u16 x2, .int .u32 x3, .int .u16 x4, .int .i64 x5, .int .u8 x6, .bool x7, .int .u8 x8] 38))).cell? ⟨w.heap.size, 3, none⟩ = some (.int .u32 0) := d1.at_ 3
  have xd1_4 : ((w1.alloc (.cells #[.int .u8 x0, .int .u32 x1, .int .u16 x2, .int .u32 x3, .int .u16 x4, .int .i64 x5, .int .u8 x6, .bool x7, .int .u8 x8] 38))).cell? ⟨w.heap.size, 4, none⟩ = some (.int .u16 0) := d1.at_ 4
  have xd1_5 : ((w1.alloc (.cells #[.int .u8 x0, .int .u32 x1, .int .u16 x2, .int .u32 x3, .int .u16 x4, .int .i64 x5, .int .u8 x6, .bool x7, .int .u8 x8] 38))).cell? ⟨w.heap.size, 5, none⟩ = some (.int .i64 0) := d1.at_ 5
  have xd1_6 : ((w1.alloc (.cells #[.int .u8 x0, .int .u32 x1, .int .u16 x2, .int .u32 x3, .int .u16 x4, .int .i64 x5, .int .u8 x6, .bool x7, .int .u8 x8] 38))).cell? ⟨w.heap.size, 6, none⟩ = some (.int .u8 0) := d1.at_ 6
  have xd1_7 : ((w1.alloc (.cells #[.int .u8 x0, .int .u32 x1, .int .u16 x2, .int .u32 x3, .int .u16 x4, .int .i64 x5, .int .u8 x6, .bool x7, .int .u8 x8] 38))).cell? ⟨w.heap.size, 7, none⟩ = some (.bool false) := d1.at_ 7
  have xd1_8 : ((w1.alloc (.cells #[.int .u8 x0, .int .u32 x1, .int .u16 x2, .int .u32 x3, .int .u16 x4, .int .i64 x5, .int .u8 x6, .bool x7, .int .u8 x8] 38))).cell? ⟨w.heap.size, 8, none⟩ = some (.int .u8 0) := d1.at_ 8
  have yd1_0 : ((w1.alloc (.cells #[.int .u8 x0, .int .u32 x1, .int .u16 x2, .int .u32 x3, .int .u16 x4, .int .i64 x5, .int .u8 x6, .bool x7, .int .u8 x8] 38))).frozen? ⟨w.heap.size, 0, none⟩ = false := d1.free 0
  have yd1_1 : ((w1.alloc (.cells #[.int .u8 x0, .int .u32 x1, .int .u16 x2, .int .u32 x3, .int .u16 x4, .int .i64 x5, .int .u8 x6, .bool x7, .int .u8 x8] 38))).frozen? ⟨w.heap.size, 1, none⟩ = false := d1.free 1
  have yd1_2 : ((w1.alloc (.cells #[.int .u8 x0, .int .u32 x1, .int .u16 x2, .int .u32 x3, .int .u16 x4, .int .i64 x5, .int .u8 x6, .bool x7, .int .u8 x8] 38))).frozen? ⟨w.heap.size, 2, none⟩ = false := d1.free 2
  have yd1_3 : ((w1.alloc (.cells #[.int .u8 x0, .int .u32 x1, .int .u16 x2, .int .u32 x3, .int .u16 x4, .int .i64 x5, .int .u8 x6, .bool x7, .int .u8 x8] 38))).frozen? ⟨w.heap.size, 3, none⟩ = false := d1.free 3
  have yd1_4 : ((w1.alloc (.cells #[.int .u8 x0, .int .u32 x1, .int .u16 x2, .int .u32 x3, .int .u16 x4, .int .i64 x5, .int .u8 x6, .bool x7, .int .u8 x8] 38))).frozen? ⟨w.heap.size, 4, none⟩ = false := d1.free 4
  have yd1_5 : ((w1.alloc (.cells #[.int .u8 x0, .int .u32 x1, .int .u16 x2, .int .u32 x3, .int .u16 x4, .int .i64 x5, .int .u8 x6, .bool x7, .int .u8 x8] 38))).frozen? ⟨w.heap.size, 5, none⟩ = false := d1.free 5
  have yd1_6 : ((w1.alloc (.cells #[.int .u8 x0, .int .u32 x1, .int .u16 x2, .int .u32 x3, .int .u16 x4, .int .i64 x5, .int .u8 x6, .bool x7, .int .u8 x8] 38))).frozen? ⟨w.heap.size, 6, none⟩ = false := d1.free 6
  have yd1_7 : ((w1.alloc (.cells #[.int .u8 x0, .int .u32 x1, .int .u16 x2, .int .u32 x3, .int .u16 x4, .int .i64 x5, .int .u8 x6, .bool x7, .int .u8 x8] 38))).frozen? ⟨w.heap.size, 7, none⟩ = false := d1.free 7
  have yd1_8 : ((w1.alloc (.cells #[.int .u8 x0, .int .u32 x1, .int .u16 x2, .int .u32 x3, .int .u16 x4, .int .i64 x5, .int .u8 x6, .bool x7, .int .u8 x8] 38))).frozen? ⟨w.heap.size, 8, none⟩ = false := d1.free 8
  have xe1_0 : ((w1.alloc (.cells #[.int .u8 x0, .int .u32 x1, .int .u16 x2, .int .u32 x3, .int .u16 x4, .int .i64 x5, .int .u8 x6, .bool x7, .int .u8 x8] 38))).cell? ⟨w1.heap.size, 0, none⟩ = some (.int .u8 x0) := e1.at_ 0
  have xe1_1 : ((w1.alloc (.cells #[.int .u8 x0, .int .u32 x1, .int .u16 x2, .int .u32 x3, .int .u16 x4, .int .i64 x5, .int .u8 x6, .bool x7, .int .u8 x8] 38))).cell? ⟨w1.heap.size, 1, none⟩ = some (.int .u32 x1) := e1.at_ 1
  have xe1_2 : ((w1.alloc (.cells #[.int .u8 x0, .int .u32 x1, .int .u16 x2, .int .u32 x3, .int .u16 x4, .int .i64 x5, .int .u8 x6, .bool x7, .int .u8 x8] 38))).cell? ⟨w1.heap.size, 2, none⟩ = some (.int .u16 x2) := e1.at_ 2
  have xe1_3 : ((w1.alloc (.cells #[.int .u8 x0, .int .u32 x1, .int .u16 x2, .int .u32 x3, .int .u16 x4, .int .i64 x5, .int .u8 x6, .bool x7, .int .u8 x8] 38))).cell? ⟨w1.heap.size, 3, none⟩ = some (.int .u32 x3) := e1.at_ 3
  have xe1_4 : ((w1.alloc (.cells #[.int .u8 x0, .int .u32 x1, .int .u16 x2, .int .u32 x3, .int .u16 x4, .int .i64 x5, .int .u8 x6, .bool x7, .int .u8 x8] 38))).cell? ⟨w1.heap.size, 4, none⟩ = some (.int .u16 x4) := e1.at_ 4
  have xe1_5 : ((w1.alloc (.cells #[.int .u8 x0, .int .u32 x1, .int .u16 x2, .int .u32 x3, .int .u16 x4, .int .i64 x5, .int .u8 x6, .bool x7, .int .u8 x8] 38))).cell? ⟨w1.heap.size, 5, none⟩ = some (.int .i64 x5) := e1.at_ 5
  have xe1_6 : ((w1.alloc (.cells #[.int .u8 x0, .int .u32 x1, .int .u16 x2, .int .u32 x3, .int .u16 x4, .int .i64 x5, .int .u8 x6, .bool x7, .int .u8 x8] 38))).cell? ⟨w1.heap.size, 6, none⟩ = some (.int .u8 x6) := e1.at_ 6
  have xe1_7 : ((w1.alloc (.cells #[.int .u8 x0, .int .u32 x1, .int .u16 x2, .int .u32 x3, .int .u16 x4, .int .i64 x5, .int .u8 x6, .bool x7, .int .u8 x8] 38))).cell? ⟨w1.heap.size, 7, none⟩ = some (.bool x7) := e1.at_ 7
  have xe1_8 : ((w1.alloc (.cells #[.int .u8 x0, .int .u32 x1, .int .u16 x2, .int .u32 x3, .int .u16 x4, .int .i64 x5, .int .u8 x6, .bool x7, .int .u8 x8] 38))).cell? ⟨w1.heap.size, 8, none⟩ = some (.int .u8 x8) := e1.at_ 8
  have D1 := hide d1; have B1 := hide b1
  clear d1 b1 e1
  go_wp2_with fail
  have d1 := D1.out; have b1 := B1.out
  generalize w1.alloc (.cells #[.int .u8 x0, .int .u32 x1, .int .u16 x2, .int .u32 x3, .int .u16 x4, .int .i64 x5, .int .u8 x6, .bool x7, .int .u8 x8] 38) = W at *
  have r5 := (Cells.put9 d1 (.int .u8 x0) (.int .u32 x1) (.int .u16 x2) (.int .u32 x3) (.int .u16 x4) (.int .i64 x5) (.int .u8 x6) (.bool x7) (.int .u8 x8))
  have b5 := (Below.put9 b1 (b := w.heap.size) (by first | exact Nat.le_refl _ | omega) (.int .u8 x0) (.int .u32 x1) (.int .u16 x2) (.int .u32 x3) (.int .u16 x4) (.int .i64 x5) (.int .u8 x6) (.bool x7) (.int .u8 x8))
  have HR5 := hide r5; have HB5 := hide b5
  clear r5 b5 d1
  generalize (((((((((W.setCell ⟨w.heap.size, 0, none⟩ (.int .u8 x0)).setCell ⟨w.heap.size, 1, none⟩ (.int .u32 x1)).setCell ⟨w.heap.size, 2, none⟩ (.int .u16 x2)).setCell ⟨w.heap.size, 3, none⟩ (.int .u32 x3)).setCell ⟨w.heap.size, 4, none⟩ (.int .u16 x4)).setCell ⟨w.heap.size, 5, none⟩ (.int .i64 x5)).setCell ⟨w.heap.size, 6, none⟩ (.int .u8 x6)).setCell ⟨w.heap.size, 7, none⟩ (.bool x7)).setCell ⟨w.heap.size, 8, none⟩ (.int .u8 x8)) = W5 at *
  have r5 := HR5.out; have b5 := HB5.out
  clear HR5 HB5
  have xr5_0 : W5.cell? ⟨w.heap.size, 0, none⟩ = some (.int .u8 x0) := r5.at_ 0
  have xr5_1 : W5.cell? ⟨w.heap.size, 1, none⟩ = some (.int .u32 x1) := r5.at_ 1
  have xr5_2 : W5.cell? ⟨w.heap.size, 2, none⟩ = some (.int .u16 x2) := r5.at_ 2
  have xr5_3 : W5.cell? ⟨w.heap.size, 3, none⟩ = some (.int .u32 x3) := r5.at_ 3
  have xr5_4 : W5.cell? ⟨w.heap.size, 4, none⟩ = some (.int .u16 x4) := r5.at_ 4
  have xr5_5 : W5.cell? ⟨w.heap.size, 5, none⟩ = some (.int .i64 x5) := r5.at_ 5
  have xr5_6 : W5.cell? ⟨w.heap.size, 6, none⟩ = some (.int .u8 x6) := r5.at_ 6
  have xr5_7 : W5.cell? ⟨w.heap.size, 7, none⟩ = some (.bool x7) := r5.at_ 7
  have xr5_8 : W5.cell? ⟨w.heap.size, 8, none⟩ = some (.int .u8 x8) := r5.at_ 8
  (try simp only [Exit.inBlock, Exit.then]); refine bodyPost_ret (by simp [results, Tryz.results8, go_sem, *]; try rfl) rfl ?_
  first | exact ⟨rfl, b5⟩ | exact ⟨by rw [decide_eq_false (by omega)], b5⟩

set_option maxRecDepth 100000 in
set_option maxHeartbeats 2000000 in
theorem tk_yes (s : ByteArray) (n x0 x1 x2 x3 x4 x5 x6 x8 r : Int) (x7 : Bool) (w : World) (K0 : Kinds w) (q2 : n < x8) (q3 : (20 : Int) ≤ (s.size : Int))
    (c1 : ∀ W, Kinds W → Calls Tryz.prog 12 #[.string s] W (Ret (.tuple #[.agg #[.int .u8 x0, .int .u32 x1, .int .u16 x2, .int .u32 x3, .int .u16 x4, .int .i64 x5, .int .u8 x6, .bool x7, .int .u8 x8], .int .i64 0]) W)) :
    Calls Tryz.prog 8 #[.string s, .int .u8 n] w (Ret (.tuple #[.agg #[.int .u8 x0, .int .u32 x1, .int .u16 x2, .int .u32 x3, .int .u16 x4, .int .i64 x5, .int .u8 x6, .bool x7, .int .u8 x8], .bool true]) w) := by
  have C1 := hide c1; have KK := hide K0
  clear c1 K0
  go_enter Tryz.func8, Tryz.ntmps8
  have d0 := Cells.new w #[.int .u8 0, .int .u32 0, .int .u16 0, .int .u32 0, .int .u16 0, .int .i64 0, .int .u8 0, .bool false, .int .u8 0] 38
  go_wp2_with fail
  (with_reducible refine (C1.out _ (KK.out.below (fresh_below _ _))).mono ?_)
  rintro e w1 ⟨rfl, b1⟩
  have d1 := Cells.alloc (Cells.below b1 d0) (.cells #[.int .u8 x0, .int .u32 x1, .int .u16 x2, .int .u32 x3, .int .u16 x4, .int .i64 x5, .int .u8 x6, .bool x7, .int .u8 x8] 38)
  have e1 := Cells.new w1 #[.int .u8 x0, .int .u32 x1, .int .u16 x2, .int .u32 x3, .int .u16 x4, .int .i64 x5, .int .u8 x6, .bool x7, .int .u8 x8] 38
  replace b1 : Below w.heap.size w (w1.alloc (.cells #[.int .u8 x0, .int .u32 x1, .int .u16 x2, .int .u32 x3, .int .u16 x4, .int .i64 x5, .int .u8 x6, .bool x7, .int .u8 x8] 38)) := bstep (bstep (fresh_below _ _) b1) (fresh_below _ _)
  clear d0
  have xd1_0 : ((w1.alloc (.cells #[.int .u8 x0, .int .u32 x1, .int .u16 x2, .int .u32 x3, .int .u16 x4, .int .i64 x5, .int .u8 x6, .bool x7, .int .u8 x8] 38))).cell? ⟨w.heap.size, 0, none⟩ = some (.int .u8 0) := d1.at_ 0
  have xd1_1 : ((w1.alloc (.cells #[.int .u8 x0, .int .u32 x1, .int .u16 x2, .int .u32 x3, .int .u16 x4, .int .i64 x5, .int .u8 x6, .bool x7, .int .u8 x8] 38))).cell? ⟨w.heap.size, 1, none⟩ = some (.int .u32 0) := d1.at_ 1
  have xd1_2 : ((w1.alloc (.cells #[.int .u8 x0, .int .u32 x1, .int .u16 x2, .int .u32 x3, .int .u16 x4, .int .i64 x5, .int .u8 x6, .bool x7, .int .u8 x8] 38))).cell? ⟨w.heap.size, 2, none⟩ = some (.int .u16 0) := d1.at_ 2
  have xd1_3 : ((w1.alloc (.cells #[.int .u8 x0, .int .u32 x1, .int .u16 x2, .int .u32 x3, .int .u16 x4, .int .i64 x5, .int .u8 x6, .bool x7, .int .u8 x8] 38))).cell? ⟨w.heap.size, 3, none⟩ = some (.int .u32 0) := d1.at_ 3
  have xd1_4 : ((w1.alloc (.cells #[.int .u8 x0, .int .u32 x1, .int .u16 x2, .int .u32 x3, .int .u16 x4, .int .i64 x5, .int .u8 x6, .bool x7, .int .u8 x8] 38))).cell? ⟨w.heap.size, 4, none⟩ = some (.int .u16 0) := d1.at_ 4
  have xd1_5 : ((w1.alloc (.cells #[.int .u8 x0, .int .u32 x1, .int .u16 x2, .int .u32 x3, .int .u16 x4, .int .i64 x5, .int .u8 x6, .bool x7, .int .u8 x8] 38))).cell? ⟨w.heap.size, 5, none⟩ = some (.int .i64 0) := d1.at_ 5
  have xd1_6 : ((w1.alloc (.cells #[.int .u8 x0, .int .u32 x1, .int .u16 x2, .int .u32 x3, .int .u16 x4, .int .i64 x5, .int .u8 x6, .bool x7, .int .u8 x8] 38))).cell? ⟨w.heap.size, 6, none⟩ = some (.int .u8 0) := d1.at_ 6
  have xd1_7 : ((w1.alloc (.cells #[.int .u8 x0, .int .u32 x1, .int .u16 x2, .int .u32 x3, .int .u16 x4, .int .i64 x5, .int .u8 x6, .bool x7, .int .u8 x8] 38))).cell? ⟨w.heap.size, 7, none⟩ = some (.bool false) := d1.at_ 7
  have xd1_8 : ((w1.alloc (.cells #[.int .u8 x0, .int .u32 x1, .int .u16 x2, .int .u32 x3, .int .u16 x4, .int .i64 x5, .int .u8 x6, .bool x7, .int .u8 x8] 38))).cell? ⟨w.heap.size, 8, none⟩ = some (.int .u8 0) := d1.at_ 8
  have yd1_0 : ((w1.alloc (.cells #[.int .u8 x0, .int .u32 x1, .int .u16 x2, .int .u32 x3, .int .u16 x4, .int .i64 x5, .int .u8 x6, .bool x7, .int .u8 x8] 38))).frozen? ⟨w.heap.size, 0, none⟩ = false := d1.free 0
  have yd1_1 : ((w1.alloc (.cells #[.int .u8 x0, .int .u32 x1, .int .u16 x2, .int .u32 x3, .int .u16 x4, .int .i64 x5, .int .u8 x6, .bool x7, .int .u8 x8] 38))).frozen? ⟨w.heap.size, 1, none⟩ = false := d1.free 1
  have yd1_2 : ((w1.alloc (.cells #[.int .u8 x0, .int .u32 x1, .int .u16 x2, .int .u32 x3, .int .u16 x4, .int .i64 x5, .int .u8 x6, .bool x7, .int .u8 x8] 38))).frozen? ⟨w.heap.size, 2, none⟩ = false := d1.free 2
  have yd1_3 : ((w1.alloc (.cells #[.int .u8 x0, .int .u32 x1, .int .u16 x2, .int .u32 x3, .int .u16 x4, .int .i64 x5, .int .u8 x6, .bool x7, .int .u8 x8] 38))).frozen? ⟨w.heap.size, 3, none⟩ = false := d1.free 3
  have yd1_4 : ((w1.alloc (.cells #[.int .u8 x0, .int .u32 x1, .int .u16 x2, .int .u32 x3, .int .u16 x4, .int .i64 x5, .int .u8 x6, .bool x7, .int .u8 x8] 38))).frozen? ⟨w.heap.size, 4, none⟩ = false := d1.free 4
  have yd1_5 : ((w1.alloc (.cells #[.int .u8 x0, .int .u32 x1, .int .u16 x2, .int .u32 x3, .int .u16 x4, .int .i64 x5, .int .u8 x6, .bool x7, .int .u8 x8] 38))).frozen? ⟨w.heap.size, 5, none⟩ = false := d1.free 5
  have yd1_6 : ((w1.alloc (.cells #[.int .u8 x0, .int .u32 x1, .int .u16 x2, .int .u32 x3, .int .u16 x4, .int .i64 x5, .int .u8 x6, .bool x7, .int .u8 x8] 38))).frozen? ⟨w.heap.size, 6, none⟩ = false := d1.free 6
  have yd1_7 : ((w1.alloc (.cells #[.int .u8 x0, .int .u32 x1, .int .u16 x2, .int .u32 x3, .int .u16 x4, .int .i64 x5, .int .u8 x6, .bool x7, .int .u8 x8] 38))).frozen? ⟨w.heap.size, 7, none⟩ = false := d1.free 7
  have yd1_8 : ((w1.alloc (.cells #[.int .u8 x0, .int .u32 x1, .int .u16 x2, .int .u32 x3, .int .u16 x4, .int .i64 x5, .int .u8 x6, .bool x7, .int .u8 x8] 38))).frozen? ⟨w.heap.size, 8, none⟩ = false := d1.free 8
  have xe1_0 : ((w1.alloc (.cells #[.int .u8 x0, .int .u32 x1, .int .u16 x2, .int .u32 x3, .int .u16 x4, .int .i64 x5, .int .u8 x6, .bool x7, .int .u8 x8] 38))).cell? ⟨w1.heap.size, 0, none⟩ = some (.int .u8 x0) := e1.at_ 0
  have xe1_1 : ((w1.alloc (.cells #[.int .u8 x0, .int .u32 x1, .int .u16 x2, .int .u32 x3, .int .u16 x4, .int .i64 x5, .int .u8 x6, .bool x7, .int .u8 x8] 38))).cell? ⟨w1.heap.size, 1, none⟩ = some (.int .u32 x1) := e1.at_ 1
  have xe1_2 : ((w1.alloc (.cells #[.int .u8 x0, .int .u32 x1, .int .u16 x2, .int .u32 x3, .int .u16 x4, .int .i64 x5, .int .u8 x6, .bool x7, .int .u8 x8] 38))).cell? ⟨w1.heap.size, 2, none⟩ = some (.int .u16 x2) := e1.at_ 2
  have xe1_3 : ((w1.alloc (.cells #[.int .u8 x0, .int .u32 x1, .int .u16 x2, .int .u32 x3, .int .u16 x4, .int .i64 x5, .int .u8 x6, .bool x7, .int .u8 x8] 38))).cell? ⟨w1.heap.size, 3, none⟩ = some (.int .u32 x3) := e1.at_ 3
  have xe1_4 : ((w1.alloc (.cells #[.int .u8 x0, .int .u32 x1, .int .u16 x2, .int .u32 x3, .int .u16 x4, .int .i64 x5, .int .u8 x6, .bool x7, .int .u8 x8] 38))).cell? ⟨w1.heap.size, 4, none⟩ = some (.int .u16 x4) := e1.at_ 4
  have xe1_5 : ((w1.alloc (.cells #[.int .u8 x0, .int .u32 x1, .int .u16 x2, .int .u32 x3, .int .u16 x4, .int .i64 x5, .int .u8 x6, .bool x7, .int .u8 x8] 38))).cell? ⟨w1.heap.size, 5, none⟩ = some (.int .i64 x5) := e1.at_ 5
  have xe1_6 : ((w1.alloc (.cells #[.int .u8 x0, .int .u32 x1, .int .u16 x2, .int .u32 x3, .int .u16 x4, .int .i64 x5, .int .u8 x6, .bool x7, .int .u8 x8] 38))).cell? ⟨w1.heap.size, 6, none⟩ = some (.int .u8 x6) := e1.at_ 6
  have xe1_7 : ((w1.alloc (.cells #[.int .u8 x0, .int .u32 x1, .int .u16 x2, .int .u32 x3, .int .u16 x4, .int .i64 x5, .int .u8 x6, .bool x7, .int .u8 x8] 38))).cell? ⟨w1.heap.size, 7, none⟩ = some (.bool x7) := e1.at_ 7
  have xe1_8 : ((w1.alloc (.cells #[.int .u8 x0, .int .u32 x1, .int .u16 x2, .int .u32 x3, .int .u16 x4, .int .i64 x5, .int .u8 x6, .bool x7, .int .u8 x8] 38))).cell? ⟨w1.heap.size, 8, none⟩ = some (.int .u8 x8) := e1.at_ 8
  have D1 := hide d1; have B1 := hide b1
  clear d1 b1 e1
  go_wp2_with fail
  have d1 := D1.out; have b1 := B1.out
  generalize w1.alloc (.cells #[.int .u8 x0, .int .u32 x1, .int .u16 x2, .int .u32 x3, .int .u16 x4, .int .i64 x5, .int .u8 x6, .bool x7, .int .u8 x8] 38) = W at *
  have r5 := (Cells.put9 d1 (.int .u8 x0) (.int .u32 x1) (.int .u16 x2) (.int .u32 x3) (.int .u16 x4) (.int .i64 x5) (.int .u8 x6) (.bool x7) (.int .u8 x8))
  have b5 := (Below.put9 b1 (b := w.heap.size) (by first | exact Nat.le_refl _ | omega) (.int .u8 x0) (.int .u32 x1) (.int .u16 x2) (.int .u32 x3) (.int .u16 x4) (.int .i64 x5) (.int .u8 x6) (.bool x7) (.int .u8 x8))
  have HR5 := hide r5; have HB5 := hide b5
  clear r5 b5 d1
  generalize (((((((((W.setCell ⟨w.heap.size, 0, none⟩ (.int .u8 x0)).setCell ⟨w.heap.size, 1, none⟩ (.int .u32 x1)).setCell ⟨w.heap.size, 2, none⟩ (.int .u16 x2)).setCell ⟨w.heap.size, 3, none⟩ (.int .u32 x3)).setCell ⟨w.heap.size, 4, none⟩ (.int .u16 x4)).setCell ⟨w.heap.size, 5, none⟩ (.int .i64 x5)).setCell ⟨w.heap.size, 6, none⟩ (.int .u8 x6)).setCell ⟨w.heap.size, 7, none⟩ (.bool x7)).setCell ⟨w.heap.size, 8, none⟩ (.int .u8 x8)) = W5 at *
  have r5 := HR5.out; have b5 := HB5.out
  clear HR5 HB5
  have xr5_0 : W5.cell? ⟨w.heap.size, 0, none⟩ = some (.int .u8 x0) := r5.at_ 0
  have xr5_1 : W5.cell? ⟨w.heap.size, 1, none⟩ = some (.int .u32 x1) := r5.at_ 1
  have xr5_2 : W5.cell? ⟨w.heap.size, 2, none⟩ = some (.int .u16 x2) := r5.at_ 2
  have xr5_3 : W5.cell? ⟨w.heap.size, 3, none⟩ = some (.int .u32 x3) := r5.at_ 3
  have xr5_4 : W5.cell? ⟨w.heap.size, 4, none⟩ = some (.int .u16 x4) := r5.at_ 4
  have xr5_5 : W5.cell? ⟨w.heap.size, 5, none⟩ = some (.int .i64 x5) := r5.at_ 5
  have xr5_6 : W5.cell? ⟨w.heap.size, 6, none⟩ = some (.int .u8 x6) := r5.at_ 6
  have xr5_7 : W5.cell? ⟨w.heap.size, 7, none⟩ = some (.bool x7) := r5.at_ 7
  have xr5_8 : W5.cell? ⟨w.heap.size, 8, none⟩ = some (.int .u8 x8) := r5.at_ 8
  (try simp only [Exit.inBlock, Exit.then]); refine bodyPost_ret (by simp [results, Tryz.results8, go_sem, *]; try rfl) rfl ?_
  first | exact ⟨rfl, b5⟩ | exact ⟨by rw [decide_eq_false (by omega)], b5⟩

theorem taken_walk (s : ByteArray) (n : Int) (w : World) (K0 : Kinds w) (hs : s.size ≤ 140737488351232) :
    Calls Tryz.prog 8 #[.string s, .int .u8 n] w (Ret (.tuple #[.agg (seenOf s).cells, .bool (decide (seenWhy s = 0 ∧ n < (seenOf s).l ∧ 20 ≤ s.size))]) w) := by
  have c1 := fun W K => tu_Of s W K hs
  unfold Seen.cells at c1 ⊢
  by_cases h1 : seenWhy s = 0
  · rw [h1] at c1
    by_cases h2 : n < (seenOf s).l
    · by_cases h3 : 20 ≤ s.size
      · rw [decide_eq_true ⟨h1, h2, h3⟩]
        exact tk_yes s n _ _ _ _ _ _ _ _ 0 _ w K0 h2 (by omega) c1
      · rw [decide_eq_false (fun h => h3 h.2.2)]
        exact tk_len s n _ _ _ _ _ _ _ _ 0 _ w K0 h2 (by omega) c1
    · rw [decide_eq_false (fun h => h2 h.2.1)]
      exact tk_ttl s n _ _ _ _ _ _ _ _ 0 _ w K0 h2 c1
  · rw [decide_eq_false (fun h => h1 h.1)]
    exact tk_why s n _ _ _ _ _ _ _ _ (seenWhy s) _ w K0 (by simpa using h1) c1

end Go.Proofs.YtpidgmamollmgaaGreatDoor
end

section
/- udp.summed of one part. -/
set_option linter.unusedVariables false
namespace Go.Proofs.YtpidgmamollmgaaGreatDoor
open Go.RowKit
attribute [local go_sem] Oper.semAt_some

/-- it returns a row of two texts -/
def Two (a b : ByteArray) (w : World) (e : Ending) (w' : World) : Prop := ∃ A' c', e = .returned (.slice A' 2 c') ∧ Row w' w'.heap.size A' 2 [.string a, .string b] ∧ Below w.heap.size w w'
set_option maxHeartbeats 1000000 in
theorem udp_summed (a b : Int) (p : ByteArray) (A : Option Addr) (c : Nat) (w : World) (hr : Row w w.heap.size A 1 [.string p]) (ha : 0 ≤ a ∧ a ≤ 4294967295) (hb : 0 ≤ b ∧ b ≤ 4294967295) (hp : p.size ≤ 140737488351232) :
    Calls Tryz.prog 70 #[.int .u32 a, .int .u32 b, .slice A 1 c] w (Two (S (pseudo a b 17 p.size)) p w) := by
  obtain ⟨bk, o, rfl, hbo, hc⟩ := hr.at_ (by omega)
  have hcell : w.cell? ⟨bk, o, none⟩ = some (.string p) := by have := hc 0 (.string p) rfl; simpa using this
  have HC := hide hcell
  clear hc
  go_enter Tryz.func70, Tryz.ntmps70
  go_wp2_with fail
  go_loopw [7, 13] (fun v i wr => ∃ k : Nat, k ≤ 1 ∧ i = .int .i64 k ∧ v = .int .i64 (if k = 0 then 0 else p.size) ∧ w = wr) (fun _ i _ => 1 - (intOf i).toNat)
  case atStart => exact ⟨0, by omega, rfl, rfl, rfl⟩
  case round =>
    obtain ⟨k, hk, rfl, rfl, rfl⟩ := hrel
    by_cases h0 : k = 0
    · subst h0
      rw [if_pos rfl]
      go_wp2_with fail
      go_roundw
      case rel => exact ⟨1, by omega, by go_num, v_int (by simp), trivial⟩
      case measure => simp [intOf]
    · obtain rfl : k = 1 := by omega
      rw [if_neg h0]
      have c1 := fun w => Put32 a w ha.1 ha.2
      have c2 := fun w => Put32 b w hb.1 hb.2
      have hl : ∀ x ∈ [17, (p.size : Int) % 65536], 0 ≤ x ∧ x ≤ 65535 := by
        intro x hx
        simp only [List.mem_cons, List.not_mem_nil, or_false] at hx
        rcases hx with rfl | rfl <;> omega
      have c3 := fun W => Word (some ⟨W.heap.size, 0, none⟩) 2 2 [17, (p.size : Int) % 65536] (W.alloc (.cells #[.int .u16 17, .int .u16 ((p.size : Int) % 65536)] 24)) (Row.freshAt W #[.int .u16 17, .int .u16 ((p.size : Int) % 65536)] 24 W.heap.size _ _ rfl rfl rfl) hl (by omega)
      obtain ⟨s1, e1⟩ : ∃ s, s = S (put32 a) := ⟨_, rfl⟩
      obtain ⟨s2, e2⟩ : ∃ s, s = S (put32 b) := ⟨_, rfl⟩
      obtain ⟨s3, e3⟩ : ∃ s, s = S (putW [17, (p.size : Int) % 65536]) := ⟨_, rfl⟩
      have z1 : s1.size = 4 := by rw [e1]; rfl
      have z2 : s2.size = 4 := by rw [e2]; rfl
      have z3 : s3.size = 4 := by rw [e3]; rfl
      have hend : s1 ++ s2 ++ s3 = S (pseudo a b 17 p.size) := by rw [e1, e2, e3, S_append, S_append]; rfl
      rw [← e1] at c1
      rw [← e2] at c2
      rw [← e3] at c3
      have C1 := hide c1; have C2 := hide c2; have C3 := hide c3; have HE := hide hend
      clear c1 c2 c3 hend e1 e2 e3 hl
      go_wp2_with fail
      refine (C1.out _).mono ?_
      rintro e w1 ⟨rfl, b1⟩
      go_wp2_with fail
      refine (C2.out _).mono ?_
      rintro e w2 ⟨rfl, b2⟩
      replace b2 := bstep b1 b2
      go_wp2_with fail
      refine (C3.out _).mono ?_
      rintro e w3 ⟨rfl, b3⟩
      replace b3 := bstep (bstep b2 (fresh_below _ _)) b3
      have infoStr : (Tryz.prog.info? 9).map (fun i => (i.zero, i.size, i.bytes)) = some (some (.string { data := #[] }), 1, 16) := by kernel_rfl
      obtain ⟨i0, hi, hz0, hz1, hz2⟩ := info_parts infoStr
      have hcw : (w3.alloc (.cells #[.string (s1 ++ s2 ++ s3)] 9)).cell? ⟨bk, o, none⟩ = some (.string p) := by
        have hk := bstep b3 (fresh_below w3 (.cells #[.string (s1 ++ s2 ++ s3)] 9))
        rw [hk.cell (p := ⟨bk, o, none⟩) hbo]; exact HC.out
      have HW := hide hcw
      clear hcw
      go_wp2_with (at_builtin; refine wpList_append_own _ rfl _ _ 63 rfl w.heap.size 9 i0 (.string { data := #[] }) 1 16 Tryz.underlying63 hi hz0 hz1 hz2 rfl (by decide) _ 1 [.string (s1 ++ s2 ++ s3)] rfl (owns_fresh w3 _ _ _ b3.size) ⟨bk, o, none⟩ 1 c [.string p] rfl rfl ?c1 ?c2 ?c3 ?c4 ?c5 ?_)
      case c1 =>
        intro j u hj
        match j, hj with
        | 0, hj => simp at hj; subst hj; simpa [Addr.add] using HW.out
      case c2 => intro u hu; simp at hu; subst hu; rfl
      case c3 => unfold maxLen; omega
      case c4 => omega
      case c5 => have := b3.size; simp; omega
      intro v' w4 hown hgrow _
      obtain ⟨A', c', rfl⟩ := owns_slice hown (by omega)
      have hrow := row_of_owns hown
      have hbel : Below w.heap.size w w4 := (bstep b3 (fresh_below w3 (.cells #[.string (s1 ++ s2 ++ s3)] 9))).grown hgrow (by have := b3.size; simp; omega) (fun k hk => by
        simp [Value.ownBlock] at hk; subst hk; exact b3.size)
      have HR := hide hrow
      clear hown hrow hgrow HW
      go_wp2
      go_ret
      refine ⟨A', c', rfl, ?_, hbel⟩
      have := HR.out
      rw [HE.out] at this
      simpa using this
end Go.Proofs.YtpidgmamollmgaaGreatDoor
end
