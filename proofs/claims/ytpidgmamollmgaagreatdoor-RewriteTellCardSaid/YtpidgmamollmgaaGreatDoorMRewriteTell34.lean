/- Several texts of this claim, one behind the other. -/
import Derived.Test.YtpidgmamollmgaaGreatDoorMRewriteTell24
import Derived.Test.YtpidgmamollmgaaGreatDoorMRewriteTell14
import Derived.Test.YtpidgmamollmgaaGreatDoorMRewriteTell9
import Derived.Test.YtpidgmamollmgaaGreatDoorMRewriteTell33
import Derived.Test.YtpidgmamollmgaaGreatDoorMRewriteTell23

section
/- The document's answer for what is seen of a packet (porterref08.Of), second half, over this program. -/
set_option linter.unusedVariables false
set_option linter.unusedSimpArgs false
namespace Go.Proofs.YtpidgmamollmgaaGreatDoor
open Go.RowKit
attribute [local go_sem] Oper.semAt_some

set_option maxRecDepth 100000 in
set_option maxHeartbeats 4000000 in
theorem o_Of_udp_no (s l : ByteArray) (w : World) (h0 h1 h3 h5 h6 : Int) (h2 : Bool) (h7 : ByteArray) (r : ByteArray)
    (c1 : ∀ W, Calls Tryz.prog 18 #[.string s] W (Ret (.tuple #[.agg #[.int .u8 h0, .int .u16 h1, .bool h2, .int .u8 h3, .int .u8 17, .int .u32 h5, .int .u32 h6, .string h7], .string l, .int .i64 0]) W))
    (c2 : ∀ W, Calls Tryz.prog 44 #[.string l] W (Ret (.tuple #[.agg #[.int .u16 0, .int .u16 0, .int .u16 0, .int .u16 0], .string r, .bool false]) W)) :
    Calls Tryz.prog 17 #[.string s] w (Ret (.tuple #[.agg #[.int .u8 0, .int .u32 0, .int .u16 0, .int .u32 0, .int .u16 0, .int .i64 0, .int .u8 0, .bool false, .int .u8 0], .int .i64 7]) w) := by
  have C1 := hide c1; have C2 := hide c2
  clear c1 c2
  go_enter Tryz.func17, Tryz.ntmps17
  have d0 := Cells.new w #[.int .u8 0, .int .u32 0, .int .u16 0, .int .u32 0, .int .u16 0, .int .i64 0, .int .u8 0, .bool false, .int .u8 0] 54
  go_wp2_with fail
  (with_reducible refine (C1.out _).mono ?_)
  rintro e w1 ⟨rfl, b1⟩
  have d1 := Cells.below b1 d0
  have e1 := Cells.new w1 #[.int .u8 h0, .int .u16 h1, .bool h2, .int .u8 h3, .int .u8 17, .int .u32 h5, .int .u32 h6, .string h7] 57
  have xe1_0 : (w1.alloc (.cells #[.int .u8 h0, .int .u16 h1, .bool h2, .int .u8 h3, .int .u8 17, .int .u32 h5, .int .u32 h6, .string h7] 57)).cell? ⟨w1.heap.size, 0, none⟩ = some (.int .u8 h0) := e1.at_ 0
  have xe1_1 : (w1.alloc (.cells #[.int .u8 h0, .int .u16 h1, .bool h2, .int .u8 h3, .int .u8 17, .int .u32 h5, .int .u32 h6, .string h7] 57)).cell? ⟨w1.heap.size, 1, none⟩ = some (.int .u16 h1) := e1.at_ 1
  have xe1_2 : (w1.alloc (.cells #[.int .u8 h0, .int .u16 h1, .bool h2, .int .u8 h3, .int .u8 17, .int .u32 h5, .int .u32 h6, .string h7] 57)).cell? ⟨w1.heap.size, 2, none⟩ = some (.bool h2) := e1.at_ 2
  have xe1_3 : (w1.alloc (.cells #[.int .u8 h0, .int .u16 h1, .bool h2, .int .u8 h3, .int .u8 17, .int .u32 h5, .int .u32 h6, .string h7] 57)).cell? ⟨w1.heap.size, 3, none⟩ = some (.int .u8 h3) := e1.at_ 3
  have xe1_4 : (w1.alloc (.cells #[.int .u8 h0, .int .u16 h1, .bool h2, .int .u8 h3, .int .u8 17, .int .u32 h5, .int .u32 h6, .string h7] 57)).cell? ⟨w1.heap.size, 4, none⟩ = some (.int .u8 17) := e1.at_ 4
  have xe1_5 : (w1.alloc (.cells #[.int .u8 h0, .int .u16 h1, .bool h2, .int .u8 h3, .int .u8 17, .int .u32 h5, .int .u32 h6, .string h7] 57)).cell? ⟨w1.heap.size, 5, none⟩ = some (.int .u32 h5) := e1.at_ 5
  have xe1_6 : (w1.alloc (.cells #[.int .u8 h0, .int .u16 h1, .bool h2, .int .u8 h3, .int .u8 17, .int .u32 h5, .int .u32 h6, .string h7] 57)).cell? ⟨w1.heap.size, 6, none⟩ = some (.int .u32 h6) := e1.at_ 6
  have xe1_7 : (w1.alloc (.cells #[.int .u8 h0, .int .u16 h1, .bool h2, .int .u8 h3, .int .u8 17, .int .u32 h5, .int .u32 h6, .string h7] 57)).cell? ⟨w1.heap.size, 7, none⟩ = some (.string h7) := e1.at_ 7
  have d3 := Cells.alloc (Cells.alloc d1 (.cells #[.int .u8 h0, .int .u16 h1, .bool h2, .int .u8 h3, .int .u8 17, .int .u32 h5, .int .u32 h6, .string h7] 57)) (.cells #[.int .u8 17, .int .u32 h5, .int .u16 0, .int .u32 h6, .int .u16 0, .int .i64 2, .int .u8 0, .bool false, .int .u8 h3] 54)
  have e3 := Cells.alloc e1 (.cells #[.int .u8 17, .int .u32 h5, .int .u16 0, .int .u32 h6, .int .u16 0, .int .i64 2, .int .u8 0, .bool false, .int .u8 h3] 54)
  have xe3_4 : (((w1.alloc (.cells #[.int .u8 h0, .int .u16 h1, .bool h2, .int .u8 h3, .int .u8 17, .int .u32 h5, .int .u32 h6, .string h7] 57)).alloc (.cells #[.int .u8 17, .int .u32 h5, .int .u16 0, .int .u32 h6, .int .u16 0, .int .i64 2, .int .u8 0, .bool false, .int .u8 h3] 54))).cell? ⟨w1.heap.size, 4, none⟩ = some (.int .u8 17) := e3.at_ 4
  have x3 : Cells ((w1.alloc (.cells #[.int .u8 h0, .int .u16 h1, .bool h2, .int .u8 h3, .int .u8 17, .int .u32 h5, .int .u32 h6, .string h7] 57)).alloc (.cells #[.int .u8 17, .int .u32 h5, .int .u16 0, .int .u32 h6, .int .u16 0, .int .i64 2, .int .u8 0, .bool false, .int .u8 h3] 54)) (w1.heap.size + 1) #[.int .u8 17, .int .u32 h5, .int .u16 0, .int .u32 h6, .int .u16 0, .int .i64 2, .int .u8 0, .bool false, .int .u8 h3] 54 := by
    have := Cells.new (w1.alloc (.cells #[.int .u8 h0, .int .u16 h1, .bool h2, .int .u8 h3, .int .u8 17, .int .u32 h5, .int .u32 h6, .string h7] 57)) #[.int .u8 17, .int .u32 h5, .int .u16 0, .int .u32 h6, .int .u16 0, .int .i64 2, .int .u8 0, .bool false, .int .u8 h3] 54
    rw [show (w1.alloc (.cells #[.int .u8 h0, .int .u16 h1, .bool h2, .int .u8 h3, .int .u8 17, .int .u32 h5, .int .u32 h6, .string h7] 57)).heap.size = w1.heap.size + 1 from by simp] at this
    exact this
  have b3 : Below w.heap.size w ((w1.alloc (.cells #[.int .u8 h0, .int .u16 h1, .bool h2, .int .u8 h3, .int .u8 17, .int .u32 h5, .int .u32 h6, .string h7] 57)).alloc (.cells #[.int .u8 17, .int .u32 h5, .int .u16 0, .int .u32 h6, .int .u16 0, .int .i64 2, .int .u8 0, .bool false, .int .u8 h3] 54)) := bstep (bstep (bstep (fresh_below _ _) b1) (fresh_below _ _)) (fresh_below _ _)
  have hlt : w.heap.size ≠ w1.heap.size + 1 := by have := d1.lt; omega
  have hle : w.heap.size ≤ w1.heap.size + 1 := by have := d1.lt; omega
  have D3 := hide d3; have X3 := hide x3; have B3 := hide b3; have HN := hide hlt; have HL := hide hle
  clear d0 d1 e1 d3 e3 x3 b3 b1 hlt hle
  go_wp2_with fail
  (with_reducible refine (C2.out _).mono ?_)
  rintro e w4 ⟨rfl, b4⟩
  have d4 := Cells.alloc (Cells.below b4 D3.out) (.cells #[.int .u16 0, .int .u16 0, .int .u16 0, .int .u16 0] 96)
  have x4 := Cells.alloc (Cells.below b4 X3.out) (.cells #[.int .u16 0, .int .u16 0, .int .u16 0, .int .u16 0] 96)
  have e4 := Cells.new w4 #[.int .u16 0, .int .u16 0, .int .u16 0, .int .u16 0] 96
  have b5 : Below w.heap.size w (w4.alloc (.cells #[.int .u16 0, .int .u16 0, .int .u16 0, .int .u16 0] 96)) := bstep (bstep B3.out b4) (fresh_below _ _)
  have hgw : w4.heap.size ≠ w.heap.size := by have := (Cells.below b4 D3.out).lt; omega
  have hgx : w4.heap.size ≠ w1.heap.size + 1 := by have := (Cells.below b4 X3.out).lt; omega
  have HGW := hide hgw; have HGX := hide hgx
  clear D3 X3 B3 b4 C1 C2 hgw hgx
  have xd4_0 : ((w4.alloc (.cells #[.int .u16 0, .int .u16 0, .int .u16 0, .int .u16 0] 96))).cell? ⟨w.heap.size, 0, none⟩ = some (.int .u8 0) := d4.at_ 0
  have xd4_1 : ((w4.alloc (.cells #[.int .u16 0, .int .u16 0, .int .u16 0, .int .u16 0] 96))).cell? ⟨w.heap.size, 1, none⟩ = some (.int .u32 0) := d4.at_ 1
  have xd4_2 : ((w4.alloc (.cells #[.int .u16 0, .int .u16 0, .int .u16 0, .int .u16 0] 96))).cell? ⟨w.heap.size, 2, none⟩ = some (.int .u16 0) := d4.at_ 2
  have xd4_3 : ((w4.alloc (.cells #[.int .u16 0, .int .u16 0, .int .u16 0, .int .u16 0] 96))).cell? ⟨w.heap.size, 3, none⟩ = some (.int .u32 0) := d4.at_ 3
  have xd4_4 : ((w4.alloc (.cells #[.int .u16 0, .int .u16 0, .int .u16 0, .int .u16 0] 96))).cell? ⟨w.heap.size, 4, none⟩ = some (.int .u16 0) := d4.at_ 4
  have xd4_5 : ((w4.alloc (.cells #[.int .u16 0, .int .u16 0, .int .u16 0, .int .u16 0] 96))).cell? ⟨w.heap.size, 5, none⟩ = some (.int .i64 0) := d4.at_ 5
  have xd4_6 : ((w4.alloc (.cells #[.int .u16 0, .int .u16 0, .int .u16 0, .int .u16 0] 96))).cell? ⟨w.heap.size, 6, none⟩ = some (.int .u8 0) := d4.at_ 6
  have xd4_7 : ((w4.alloc (.cells #[.int .u16 0, .int .u16 0, .int .u16 0, .int .u16 0] 96))).cell? ⟨w.heap.size, 7, none⟩ = some (.bool false) := d4.at_ 7
  have xd4_8 : ((w4.alloc (.cells #[.int .u16 0, .int .u16 0, .int .u16 0, .int .u16 0] 96))).cell? ⟨w.heap.size, 8, none⟩ = some (.int .u8 0) := d4.at_ 8
  have yd4_0 : ((w4.alloc (.cells #[.int .u16 0, .int .u16 0, .int .u16 0, .int .u16 0] 96))).frozen? ⟨w.heap.size, 0, none⟩ = false := d4.free 0
  have yd4_1 : ((w4.alloc (.cells #[.int .u16 0, .int .u16 0, .int .u16 0, .int .u16 0] 96))).frozen? ⟨w.heap.size, 1, none⟩ = false := d4.free 1
  have yd4_2 : ((w4.alloc (.cells #[.int .u16 0, .int .u16 0, .int .u16 0, .int .u16 0] 96))).frozen? ⟨w.heap.size, 2, none⟩ = false := d4.free 2
  have yd4_3 : ((w4.alloc (.cells #[.int .u16 0, .int .u16 0, .int .u16 0, .int .u16 0] 96))).frozen? ⟨w.heap.size, 3, none⟩ = false := d4.free 3
  have yd4_4 : ((w4.alloc (.cells #[.int .u16 0, .int .u16 0, .int .u16 0, .int .u16 0] 96))).frozen? ⟨w.heap.size, 4, none⟩ = false := d4.free 4
  have yd4_5 : ((w4.alloc (.cells #[.int .u16 0, .int .u16 0, .int .u16 0, .int .u16 0] 96))).frozen? ⟨w.heap.size, 5, none⟩ = false := d4.free 5
  have yd4_6 : ((w4.alloc (.cells #[.int .u16 0, .int .u16 0, .int .u16 0, .int .u16 0] 96))).frozen? ⟨w.heap.size, 6, none⟩ = false := d4.free 6
  have yd4_7 : ((w4.alloc (.cells #[.int .u16 0, .int .u16 0, .int .u16 0, .int .u16 0] 96))).frozen? ⟨w.heap.size, 7, none⟩ = false := d4.free 7
  have yd4_8 : ((w4.alloc (.cells #[.int .u16 0, .int .u16 0, .int .u16 0, .int .u16 0] 96))).frozen? ⟨w.heap.size, 8, none⟩ = false := d4.free 8
  go_wp2_with fail
  generalize (w4.alloc (.cells #[.int .u16 0, .int .u16 0, .int .u16 0, .int .u16 0] 96)) = W at *
  have r5 := (Cells.put9 d4 (.int .u8 0) (.int .u32 0) (.int .u16 0) (.int .u32 0) (.int .u16 0) (.int .i64 0) (.int .u8 0) (.bool false) (.int .u8 0))
  have b5 := (Below.put9 b5 (b := w.heap.size) (by first | exact Nat.le_refl _ | omega) (.int .u8 0) (.int .u32 0) (.int .u16 0) (.int .u32 0) (.int .u16 0) (.int .i64 0) (.int .u8 0) (.bool false) (.int .u8 0))
  have HR5 := hide r5; have HB5 := hide b5
  clear r5 b5 d4
  generalize (((((((((W.setCell ⟨w.heap.size, 0, none⟩ (.int .u8 0)).setCell ⟨w.heap.size, 1, none⟩ (.int .u32 0)).setCell ⟨w.heap.size, 2, none⟩ (.int .u16 0)).setCell ⟨w.heap.size, 3, none⟩ (.int .u32 0)).setCell ⟨w.heap.size, 4, none⟩ (.int .u16 0)).setCell ⟨w.heap.size, 5, none⟩ (.int .i64 0)).setCell ⟨w.heap.size, 6, none⟩ (.int .u8 0)).setCell ⟨w.heap.size, 7, none⟩ (.bool false)).setCell ⟨w.heap.size, 8, none⟩ (.int .u8 0)) = W5 at *
  have r5 := HR5.out; have b5 := HB5.out
  clear HR5 HB5
  have xr5_0 : W5.cell? ⟨w.heap.size, 0, none⟩ = some (.int .u8 0) := r5.at_ 0
  have xr5_1 : W5.cell? ⟨w.heap.size, 1, none⟩ = some (.int .u32 0) := r5.at_ 1
  have xr5_2 : W5.cell? ⟨w.heap.size, 2, none⟩ = some (.int .u16 0) := r5.at_ 2
  have xr5_3 : W5.cell? ⟨w.heap.size, 3, none⟩ = some (.int .u32 0) := r5.at_ 3
  have xr5_4 : W5.cell? ⟨w.heap.size, 4, none⟩ = some (.int .u16 0) := r5.at_ 4
  have xr5_5 : W5.cell? ⟨w.heap.size, 5, none⟩ = some (.int .i64 0) := r5.at_ 5
  have xr5_6 : W5.cell? ⟨w.heap.size, 6, none⟩ = some (.int .u8 0) := r5.at_ 6
  have xr5_7 : W5.cell? ⟨w.heap.size, 7, none⟩ = some (.bool false) := r5.at_ 7
  have xr5_8 : W5.cell? ⟨w.heap.size, 8, none⟩ = some (.int .u8 0) := r5.at_ 8
  (try simp only [Exit.inBlock, Exit.then]); refine bodyPost_ret (by simp [results, Tryz.results17, go_sem, *]; try rfl) rfl ?_
  first | exact ⟨rfl, b5⟩ | exact ⟨rfl, b5.drew⟩

set_option maxRecDepth 100000 in
set_option maxHeartbeats 4000000 in
theorem o_Of_udp_yes (s l : ByteArray) (w : World) (h0 h1 h3 h5 h6 : Int) (h2 : Bool) (h7 : ByteArray) (g0 g1 g2 g3 : Int) (r : ByteArray)
    (c1 : ∀ W, Calls Tryz.prog 18 #[.string s] W (Ret (.tuple #[.agg #[.int .u8 h0, .int .u16 h1, .bool h2, .int .u8 h3, .int .u8 17, .int .u32 h5, .int .u32 h6, .string h7], .string l, .int .i64 0]) W))
    (c2 : ∀ W, Calls Tryz.prog 44 #[.string l] W (Ret (.tuple #[.agg #[.int .u16 g0, .int .u16 g1, .int .u16 g2, .int .u16 g3], .string r, .bool true]) W)) :
    Calls Tryz.prog 17 #[.string s] w (Ret (.tuple #[.agg #[.int .u8 17, .int .u32 h5, .int .u16 g0, .int .u32 h6, .int .u16 g1, .int .i64 2, .int .u8 0, .bool false, .int .u8 h3], .int .i64 0]) w) := by
  have C1 := hide c1; have C2 := hide c2
  clear c1 c2
  go_enter Tryz.func17, Tryz.ntmps17
  have d0 := Cells.new w #[.int .u8 0, .int .u32 0, .int .u16 0, .int .u32 0, .int .u16 0, .int .i64 0, .int .u8 0, .bool false, .int .u8 0] 54
  go_wp2_with fail
  (with_reducible refine (C1.out _).mono ?_)
  rintro e w1 ⟨rfl, b1⟩
  have d1 := Cells.below b1 d0
  have e1 := Cells.new w1 #[.int .u8 h0, .int .u16 h1, .bool h2, .int .u8 h3, .int .u8 17, .int .u32 h5, .int .u32 h6, .string h7] 57
  have xe1_0 : (w1.alloc (.cells #[.int .u8 h0, .int .u16 h1, .bool h2, .int .u8 h3, .int .u8 17, .int .u32 h5, .int .u32 h6, .string h7] 57)).cell? ⟨w1.heap.size, 0, none⟩ = some (.int .u8 h0) := e1.at_ 0
  have xe1_1 : (w1.alloc (.cells #[.int .u8 h0, .int .u16 h1, .bool h2, .int .u8 h3, .int .u8 17, .int .u32 h5, .int .u32 h6, .string h7] 57)).cell? ⟨w1.heap.size, 1, none⟩ = some (.int .u16 h1) := e1.at_ 1
  have xe1_2 : (w1.alloc (.cells #[.int .u8 h0, .int .u16 h1, .bool h2, .int .u8 h3, .int .u8 17, .int .u32 h5, .int .u32 h6, .string h7] 57)).cell? ⟨w1.heap.size, 2, none⟩ = some (.bool h2) := e1.at_ 2
  have xe1_3 : (w1.alloc (.cells #[.int .u8 h0, .int .u16 h1, .bool h2, .int .u8 h3, .int .u8 17, .int .u32 h5, .int .u32 h6, .string h7] 57)).cell? ⟨w1.heap.size, 3, none⟩ = some (.int .u8 h3) := e1.at_ 3
  have xe1_4 : (w1.alloc (.cells #[.int .u8 h0, .int .u16 h1, .bool h2, .int .u8 h3, .int .u8 17, .int .u32 h5, .int .u32 h6, .string h7] 57)).cell? ⟨w1.heap.size, 4, none⟩ = some (.int .u8 17) := e1.at_ 4
  have xe1_5 : (w1.alloc (.cells #[.int .u8 h0, .int .u16 h1, .bool h2, .int .u8 h3, .int .u8 17, .int .u32 h5, .int .u32 h6, .string h7] 57)).cell? ⟨w1.heap.size, 5, none⟩ = some (.int .u32 h5) := e1.at_ 5
  have xe1_6 : (w1.alloc (.cells #[.int .u8 h0, .int .u16 h1, .bool h2, .int .u8 h3, .int .u8 17, .int .u32 h5, .int .u32 h6, .string h7] 57)).cell? ⟨w1.heap.size, 6, none⟩ = some (.int .u32 h6) := e1.at_ 6
  have xe1_7 : (w1.alloc (.cells #[.int .u8 h0, .int .u16 h1, .bool h2, .int .u8 h3, .int .u8 17, .int .u32 h5, .int .u32 h6, .string h7] 57)).cell? ⟨w1.heap.size, 7, none⟩ = some (.string h7) := e1.at_ 7
  have d3 := Cells.alloc (Cells.alloc d1 (.cells #[.int .u8 h0, .int .u16 h1, .bool h2, .int .u8 h3, .int .u8 17, .int .u32 h5, .int .u32 h6, .string h7] 57)) (.cells #[.int .u8 17, .int .u32 h5, .int .u16 0, .int .u32 h6, .int .u16 0, .int .i64 2, .int .u8 0, .bool false, .int .u8 h3] 54)
  have e3 := Cells.alloc e1 (.cells #[.int .u8 17, .int .u32 h5, .int .u16 0, .int .u32 h6, .int .u16 0, .int .i64 2, .int .u8 0, .bool false, .int .u8 h3] 54)
  have xe3_4 : (((w1.alloc (.cells #[.int .u8 h0, .int .u16 h1, .bool h2, .int .u8 h3, .int .u8 17, .int .u32 h5, .int .u32 h6, .string h7] 57)).alloc (.cells #[.int .u8 17, .int .u32 h5, .int .u16 0, .int .u32 h6, .int .u16 0, .int .i64 2, .int .u8 0, .bool false, .int .u8 h3] 54))).cell? ⟨w1.heap.size, 4, none⟩ = some (.int .u8 17) := e3.at_ 4
  have x3 : Cells ((w1.alloc (.cells #[.int .u8 h0, .int .u16 h1, .bool h2, .int .u8 h3, .int .u8 17, .int .u32 h5, .int .u32 h6, .string h7] 57)).alloc (.cells #[.int .u8 17, .int .u32 h5, .int .u16 0, .int .u32 h6, .int .u16 0, .int .i64 2, .int .u8 0, .bool false, .int .u8 h3] 54)) (w1.heap.size + 1) #[.int .u8 17, .int .u32 h5, .int .u16 0, .int .u32 h6, .int .u16 0, .int .i64 2, .int .u8 0, .bool false, .int .u8 h3] 54 := by
    have := Cells.new (w1.alloc (.cells #[.int .u8 h0, .int .u16 h1, .bool h2, .int .u8 h3, .int .u8 17, .int .u32 h5, .int .u32 h6, .string h7] 57)) #[.int .u8 17, .int .u32 h5, .int .u16 0, .int .u32 h6, .int .u16 0, .int .i64 2, .int .u8 0, .bool false, .int .u8 h3] 54
    rw [show (w1.alloc (.cells #[.int .u8 h0, .int .u16 h1, .bool h2, .int .u8 h3, .int .u8 17, .int .u32 h5, .int .u32 h6, .string h7] 57)).heap.size = w1.heap.size + 1 from by simp] at this
    exact this
  have b3 : Below w.heap.size w ((w1.alloc (.cells #[.int .u8 h0, .int .u16 h1, .bool h2, .int .u8 h3, .int .u8 17, .int .u32 h5, .int .u32 h6, .string h7] 57)).alloc (.cells #[.int .u8 17, .int .u32 h5, .int .u16 0, .int .u32 h6, .int .u16 0, .int .i64 2, .int .u8 0, .bool false, .int .u8 h3] 54)) := bstep (bstep (bstep (fresh_below _ _) b1) (fresh_below _ _)) (fresh_below _ _)
  have hlt : w.heap.size ≠ w1.heap.size + 1 := by have := d1.lt; omega
  have hle : w.heap.size ≤ w1.heap.size + 1 := by have := d1.lt; omega
  have D3 := hide d3; have X3 := hide x3; have B3 := hide b3; have HN := hide hlt; have HL := hide hle
  clear d0 d1 e1 d3 e3 x3 b3 b1 hlt hle
  go_wp2_with fail
  (with_reducible refine (C2.out _).mono ?_)
  rintro e w4 ⟨rfl, b4⟩
  have d4 := Cells.alloc (Cells.below b4 D3.out) (.cells #[.int .u16 g0, .int .u16 g1, .int .u16 g2, .int .u16 g3] 96)
  have x4 := Cells.alloc (Cells.below b4 X3.out) (.cells #[.int .u16 g0, .int .u16 g1, .int .u16 g2, .int .u16 g3] 96)
  have e4 := Cells.new w4 #[.int .u16 g0, .int .u16 g1, .int .u16 g2, .int .u16 g3] 96
  have b5 : Below w.heap.size w (w4.alloc (.cells #[.int .u16 g0, .int .u16 g1, .int .u16 g2, .int .u16 g3] 96)) := bstep (bstep B3.out b4) (fresh_below _ _)
  have hgw : w4.heap.size ≠ w.heap.size := by have := (Cells.below b4 D3.out).lt; omega
  have hgx : w4.heap.size ≠ w1.heap.size + 1 := by have := (Cells.below b4 X3.out).lt; omega
  have HGW := hide hgw; have HGX := hide hgx
  clear D3 X3 B3 b4 C1 C2 hgw hgx
  have xx4_0 : ((w4.alloc (.cells #[.int .u16 g0, .int .u16 g1, .int .u16 g2, .int .u16 g3] 96))).cell? ⟨(w1.heap.size + 1), 0, none⟩ = some (.int .u8 17) := x4.at_ 0
  have xx4_1 : ((w4.alloc (.cells #[.int .u16 g0, .int .u16 g1, .int .u16 g2, .int .u16 g3] 96))).cell? ⟨(w1.heap.size + 1), 1, none⟩ = some (.int .u32 h5) := x4.at_ 1
  have xx4_2 : ((w4.alloc (.cells #[.int .u16 g0, .int .u16 g1, .int .u16 g2, .int .u16 g3] 96))).cell? ⟨(w1.heap.size + 1), 2, none⟩ = some (.int .u16 0) := x4.at_ 2
  have xx4_3 : ((w4.alloc (.cells #[.int .u16 g0, .int .u16 g1, .int .u16 g2, .int .u16 g3] 96))).cell? ⟨(w1.heap.size + 1), 3, none⟩ = some (.int .u32 h6) := x4.at_ 3
  have xx4_4 : ((w4.alloc (.cells #[.int .u16 g0, .int .u16 g1, .int .u16 g2, .int .u16 g3] 96))).cell? ⟨(w1.heap.size + 1), 4, none⟩ = some (.int .u16 0) := x4.at_ 4
  have xx4_5 : ((w4.alloc (.cells #[.int .u16 g0, .int .u16 g1, .int .u16 g2, .int .u16 g3] 96))).cell? ⟨(w1.heap.size + 1), 5, none⟩ = some (.int .i64 2) := x4.at_ 5
  have xx4_6 : ((w4.alloc (.cells #[.int .u16 g0, .int .u16 g1, .int .u16 g2, .int .u16 g3] 96))).cell? ⟨(w1.heap.size + 1), 6, none⟩ = some (.int .u8 0) := x4.at_ 6
  have xx4_7 : ((w4.alloc (.cells #[.int .u16 g0, .int .u16 g1, .int .u16 g2, .int .u16 g3] 96))).cell? ⟨(w1.heap.size + 1), 7, none⟩ = some (.bool false) := x4.at_ 7
  have xx4_8 : ((w4.alloc (.cells #[.int .u16 g0, .int .u16 g1, .int .u16 g2, .int .u16 g3] 96))).cell? ⟨(w1.heap.size + 1), 8, none⟩ = some (.int .u8 h3) := x4.at_ 8
  have yx4_0 : ((w4.alloc (.cells #[.int .u16 g0, .int .u16 g1, .int .u16 g2, .int .u16 g3] 96))).frozen? ⟨(w1.heap.size + 1), 0, none⟩ = false := x4.free 0
  have yx4_1 : ((w4.alloc (.cells #[.int .u16 g0, .int .u16 g1, .int .u16 g2, .int .u16 g3] 96))).frozen? ⟨(w1.heap.size + 1), 1, none⟩ = false := x4.free 1
  have yx4_2 : ((w4.alloc (.cells #[.int .u16 g0, .int .u16 g1, .int .u16 g2, .int .u16 g3] 96))).frozen? ⟨(w1.heap.size + 1), 2, none⟩ = false := x4.free 2
  have yx4_3 : ((w4.alloc (.cells #[.int .u16 g0, .int .u16 g1, .int .u16 g2, .int .u16 g3] 96))).frozen? ⟨(w1.heap.size + 1), 3, none⟩ = false := x4.free 3
  have yx4_4 : ((w4.alloc (.cells #[.int .u16 g0, .int .u16 g1, .int .u16 g2, .int .u16 g3] 96))).frozen? ⟨(w1.heap.size + 1), 4, none⟩ = false := x4.free 4
  have yx4_5 : ((w4.alloc (.cells #[.int .u16 g0, .int .u16 g1, .int .u16 g2, .int .u16 g3] 96))).frozen? ⟨(w1.heap.size + 1), 5, none⟩ = false := x4.free 5
  have yx4_6 : ((w4.alloc (.cells #[.int .u16 g0, .int .u16 g1, .int .u16 g2, .int .u16 g3] 96))).frozen? ⟨(w1.heap.size + 1), 6, none⟩ = false := x4.free 6
  have yx4_7 : ((w4.alloc (.cells #[.int .u16 g0, .int .u16 g1, .int .u16 g2, .int .u16 g3] 96))).frozen? ⟨(w1.heap.size + 1), 7, none⟩ = false := x4.free 7
  have yx4_8 : ((w4.alloc (.cells #[.int .u16 g0, .int .u16 g1, .int .u16 g2, .int .u16 g3] 96))).frozen? ⟨(w1.heap.size + 1), 8, none⟩ = false := x4.free 8
  have xe4_0 : ((w4.alloc (.cells #[.int .u16 g0, .int .u16 g1, .int .u16 g2, .int .u16 g3] 96))).cell? ⟨w4.heap.size, 0, none⟩ = some (.int .u16 g0) := e4.at_ 0
  have xe4_1 : ((w4.alloc (.cells #[.int .u16 g0, .int .u16 g1, .int .u16 g2, .int .u16 g3] 96))).cell? ⟨w4.heap.size, 1, none⟩ = some (.int .u16 g1) := e4.at_ 1
  have xe4_2 : ((w4.alloc (.cells #[.int .u16 g0, .int .u16 g1, .int .u16 g2, .int .u16 g3] 96))).cell? ⟨w4.heap.size, 2, none⟩ = some (.int .u16 g2) := e4.at_ 2
  have xe4_3 : ((w4.alloc (.cells #[.int .u16 g0, .int .u16 g1, .int .u16 g2, .int .u16 g3] 96))).cell? ⟨w4.heap.size, 3, none⟩ = some (.int .u16 g3) := e4.at_ 3
  have fS := hide (fun (X : World) (hX : Cells X w4.heap.size #[.int .u16 g0, .int .u16 g1, .int .u16 g2, .int .u16 g3] 96) => (show World.cell? X ⟨w4.heap.size, 0, none⟩ = some (.int .u16 g0) ∧ World.cell? X ⟨w4.heap.size, 1, none⟩ = some (.int .u16 g1) from ⟨hX.at_ 0, hX.at_ 1⟩))
  have E4 := hide e4; have X4 := hide x4; have D4 := hide d4; have B5 := hide b5
  clear d4 b5
  go_wp2_with fail
  generalize (w4.alloc (.cells #[.int .u16 g0, .int .u16 g1, .int .u16 g2, .int .u16 g3] 96)) = w5 at *
  go_region_held3 (fun zW => World.cell? zW ⟨w4.heap.size, 0, none⟩ = some (.int .u16 g0) ∧ World.cell? zW ⟨w4.heap.size, 1, none⟩ = some (.int .u16 g1)) (((try dsimp only); with_reducible refine fS.out _ ?_; (repeat' (first | with_reducible exact E4.out | with_reducible refine Cells.drew ?_ | with_reducible refine Cells.other ?_ HGX.out _ _))))
    (fail)
  all_goals
    generalize hW6 : World.setCell _ _ _ = W6
    have x6 : Cells W6 (w1.heap.size + 1) #[.int .u8 17, .int .u32 h5, .int .u16 g0, .int .u32 h6, .int .u16 g1, .int .i64 2, .int .u8 0, .bool false, .int .u8 h3] 54 := by rw [← hW6]; (first | exact ((X4.out.drew.set_ 2 (.int .u16 g0)).set_ 4 (.int .u16 g1)) | exact ((X4.out.drew.set_ 4 (.int .u16 g1)).set_ 2 (.int .u16 g0)))
    have e6 : Cells W6 w4.heap.size #[.int .u16 g0, .int .u16 g1, .int .u16 g2, .int .u16 g3] 96 := by rw [← hW6]; (repeat' (first | with_reducible exact E4.out | with_reducible refine Cells.drew ?_ | with_reducible refine Cells.other ?_ HGX.out _ _))
    have d6 : Cells W6 w.heap.size #[.int .u8 0, .int .u32 0, .int .u16 0, .int .u32 0, .int .u16 0, .int .i64 0, .int .u8 0, .bool false, .int .u8 0] 54 := by rw [← hW6]; (repeat' (first | with_reducible exact D4.out | with_reducible refine Cells.drew ?_ | with_reducible refine Cells.other ?_ HN.out _ _))
    have b6 : Below w.heap.size w W6 := by rw [← hW6]; (repeat' (first | with_reducible exact B5.out | with_reducible refine Below.setCell ?_ (by have := HL.out; dsimp only; omega) _ | with_reducible refine Below.drew ?_))
    clear hW6
    have HX6 := hide x6; have HD6 := hide d6; have HB6 := hide b6
    have xx6_0 : W6.cell? ⟨(w1.heap.size + 1), 0, none⟩ = some (.int .u8 17) := x6.at_ 0
    have xx6_1 : W6.cell? ⟨(w1.heap.size + 1), 1, none⟩ = some (.int .u32 h5) := x6.at_ 1
    have xx6_2 : W6.cell? ⟨(w1.heap.size + 1), 2, none⟩ = some (.int .u16 g0) := x6.at_ 2
    have xx6_3 : W6.cell? ⟨(w1.heap.size + 1), 3, none⟩ = some (.int .u32 h6) := x6.at_ 3
    have xx6_4 : W6.cell? ⟨(w1.heap.size + 1), 4, none⟩ = some (.int .u16 g1) := x6.at_ 4
    have xx6_5 : W6.cell? ⟨(w1.heap.size + 1), 5, none⟩ = some (.int .i64 2) := x6.at_ 5
    have xx6_6 : W6.cell? ⟨(w1.heap.size + 1), 6, none⟩ = some (.int .u8 0) := x6.at_ 6
    have xx6_7 : W6.cell? ⟨(w1.heap.size + 1), 7, none⟩ = some (.bool false) := x6.at_ 7
    have xx6_8 : W6.cell? ⟨(w1.heap.size + 1), 8, none⟩ = some (.int .u8 h3) := x6.at_ 8
    have yx6_0 : W6.frozen? ⟨(w1.heap.size + 1), 0, none⟩ = false := x6.free 0
    have yx6_1 : W6.frozen? ⟨(w1.heap.size + 1), 1, none⟩ = false := x6.free 1
    have yx6_2 : W6.frozen? ⟨(w1.heap.size + 1), 2, none⟩ = false := x6.free 2
    have yx6_3 : W6.frozen? ⟨(w1.heap.size + 1), 3, none⟩ = false := x6.free 3
    have yx6_4 : W6.frozen? ⟨(w1.heap.size + 1), 4, none⟩ = false := x6.free 4
    have yx6_5 : W6.frozen? ⟨(w1.heap.size + 1), 5, none⟩ = false := x6.free 5
    have yx6_6 : W6.frozen? ⟨(w1.heap.size + 1), 6, none⟩ = false := x6.free 6
    have yx6_7 : W6.frozen? ⟨(w1.heap.size + 1), 7, none⟩ = false := x6.free 7
    have yx6_8 : W6.frozen? ⟨(w1.heap.size + 1), 8, none⟩ = false := x6.free 8
    have xd6_0 : W6.cell? ⟨w.heap.size, 0, none⟩ = some (.int .u8 0) := d6.at_ 0
    have xd6_1 : W6.cell? ⟨w.heap.size, 1, none⟩ = some (.int .u32 0) := d6.at_ 1
    have xd6_2 : W6.cell? ⟨w.heap.size, 2, none⟩ = some (.int .u16 0) := d6.at_ 2
    have xd6_3 : W6.cell? ⟨w.heap.size, 3, none⟩ = some (.int .u32 0) := d6.at_ 3
    have xd6_4 : W6.cell? ⟨w.heap.size, 4, none⟩ = some (.int .u16 0) := d6.at_ 4
    have xd6_5 : W6.cell? ⟨w.heap.size, 5, none⟩ = some (.int .i64 0) := d6.at_ 5
    have xd6_6 : W6.cell? ⟨w.heap.size, 6, none⟩ = some (.int .u8 0) := d6.at_ 6
    have xd6_7 : W6.cell? ⟨w.heap.size, 7, none⟩ = some (.bool false) := d6.at_ 7
    have xd6_8 : W6.cell? ⟨w.heap.size, 8, none⟩ = some (.int .u8 0) := d6.at_ 8
    have yd6_0 : W6.frozen? ⟨w.heap.size, 0, none⟩ = false := d6.free 0
    have yd6_1 : W6.frozen? ⟨w.heap.size, 1, none⟩ = false := d6.free 1
    have yd6_2 : W6.frozen? ⟨w.heap.size, 2, none⟩ = false := d6.free 2
    have yd6_3 : W6.frozen? ⟨w.heap.size, 3, none⟩ = false := d6.free 3
    have yd6_4 : W6.frozen? ⟨w.heap.size, 4, none⟩ = false := d6.free 4
    have yd6_5 : W6.frozen? ⟨w.heap.size, 5, none⟩ = false := d6.free 5
    have yd6_6 : W6.frozen? ⟨w.heap.size, 6, none⟩ = false := d6.free 6
    have yd6_7 : W6.frozen? ⟨w.heap.size, 7, none⟩ = false := d6.free 7
    have yd6_8 : W6.frozen? ⟨w.heap.size, 8, none⟩ = false := d6.free 8
    clear x6 d6 b6 e6 HX6 E4 X4 D4 B5 fS x4 e4
    go_wp2_with fail
    have d7 := HD6.out; have b7 := HB6.out
    have r5 := (Cells.put9 d7 (.int .u8 17) (.int .u32 h5) (.int .u16 g0) (.int .u32 h6) (.int .u16 g1) (.int .i64 2) (.int .u8 0) (.bool false) (.int .u8 h3))
    have b5 := (Below.put9 b7 (b := w.heap.size) (by first | exact Nat.le_refl _ | omega) (.int .u8 17) (.int .u32 h5) (.int .u16 g0) (.int .u32 h6) (.int .u16 g1) (.int .i64 2) (.int .u8 0) (.bool false) (.int .u8 h3))
    have HR5 := hide r5; have HB5 := hide b5
    clear r5 b5 d7
    generalize (((((((((W6.setCell ⟨w.heap.size, 0, none⟩ (.int .u8 17)).setCell ⟨w.heap.size, 1, none⟩ (.int .u32 h5)).setCell ⟨w.heap.size, 2, none⟩ (.int .u16 g0)).setCell ⟨w.heap.size, 3, none⟩ (.int .u32 h6)).setCell ⟨w.heap.size, 4, none⟩ (.int .u16 g1)).setCell ⟨w.heap.size, 5, none⟩ (.int .i64 2)).setCell ⟨w.heap.size, 6, none⟩ (.int .u8 0)).setCell ⟨w.heap.size, 7, none⟩ (.bool false)).setCell ⟨w.heap.size, 8, none⟩ (.int .u8 h3)) = W5 at *
    have r5 := HR5.out; have b5 := HB5.out
    clear HR5 HB5
    have xr5_0 : W5.cell? ⟨w.heap.size, 0, none⟩ = some (.int .u8 17) := r5.at_ 0
    have xr5_1 : W5.cell? ⟨w.heap.size, 1, none⟩ = some (.int .u32 h5) := r5.at_ 1
    have xr5_2 : W5.cell? ⟨w.heap.size, 2, none⟩ = some (.int .u16 g0) := r5.at_ 2
    have xr5_3 : W5.cell? ⟨w.heap.size, 3, none⟩ = some (.int .u32 h6) := r5.at_ 3
    have xr5_4 : W5.cell? ⟨w.heap.size, 4, none⟩ = some (.int .u16 g1) := r5.at_ 4
    have xr5_5 : W5.cell? ⟨w.heap.size, 5, none⟩ = some (.int .i64 2) := r5.at_ 5
    have xr5_6 : W5.cell? ⟨w.heap.size, 6, none⟩ = some (.int .u8 0) := r5.at_ 6
    have xr5_7 : W5.cell? ⟨w.heap.size, 7, none⟩ = some (.bool false) := r5.at_ 7
    have xr5_8 : W5.cell? ⟨w.heap.size, 8, none⟩ = some (.int .u8 h3) := r5.at_ 8
    (try simp only [Exit.inBlock, Exit.then]); refine bodyPost_ret (by simp [results, Tryz.results17, go_sem, *]; try rfl) rfl ?_
    first | exact ⟨rfl, b5⟩ | exact ⟨rfl, b5.drew⟩

set_option maxRecDepth 100000 in
set_option maxHeartbeats 4000000 in
theorem o_Of_msg_no (s l : ByteArray) (w : World) (h0 h1 h3 h5 h6 : Int) (h2 : Bool) (h7 : ByteArray)
    (c1 : ∀ W, Calls Tryz.prog 18 #[.string s] W (Ret (.tuple #[.agg #[.int .u8 h0, .int .u16 h1, .bool h2, .int .u8 h3, .int .u8 1, .int .u32 h5, .int .u32 h6, .string h7], .string l, .int .i64 0]) W))
    (c2 : ∀ W, Calls Tryz.prog 45 #[.string l] W (Ret (.tuple #[.agg #[.int .u8 0, .int .u8 0, .int .u16 0, .string { data := #[] }, .string { data := #[] }], .bool false]) W)) :
    Calls Tryz.prog 17 #[.string s] w (Ret (.tuple #[.agg #[.int .u8 0, .int .u32 0, .int .u16 0, .int .u32 0, .int .u16 0, .int .i64 0, .int .u8 0, .bool false, .int .u8 0], .int .i64 7]) w) := by
  have C1 := hide c1; have C2 := hide c2
  clear c1 c2
  go_enter Tryz.func17, Tryz.ntmps17
  have d0 := Cells.new w #[.int .u8 0, .int .u32 0, .int .u16 0, .int .u32 0, .int .u16 0, .int .i64 0, .int .u8 0, .bool false, .int .u8 0] 54
  go_wp2_with fail
  (with_reducible refine (C1.out _).mono ?_)
  rintro e w1 ⟨rfl, b1⟩
  have d1 := Cells.below b1 d0
  have e1 := Cells.new w1 #[.int .u8 h0, .int .u16 h1, .bool h2, .int .u8 h3, .int .u8 1, .int .u32 h5, .int .u32 h6, .string h7] 57
  have xe1_0 : (w1.alloc (.cells #[.int .u8 h0, .int .u16 h1, .bool h2, .int .u8 h3, .int .u8 1, .int .u32 h5, .int .u32 h6, .string h7] 57)).cell? ⟨w1.heap.size, 0, none⟩ = some (.int .u8 h0) := e1.at_ 0
  have xe1_1 : (w1.alloc (.cells #[.int .u8 h0, .int .u16 h1, .bool h2, .int .u8 h3, .int .u8 1, .int .u32 h5, .int .u32 h6, .string h7] 57)).cell? ⟨w1.heap.size, 1, none⟩ = some (.int .u16 h1) := e1.at_ 1
  have xe1_2 : (w1.alloc (.cells #[.int .u8 h0, .int .u16 h1, .bool h2, .int .u8 h3, .int .u8 1, .int .u32 h5, .int .u32 h6, .string h7] 57)).cell? ⟨w1.heap.size, 2, none⟩ = some (.bool h2) := e1.at_ 2
  have xe1_3 : (w1.alloc (.cells #[.int .u8 h0, .int .u16 h1, .bool h2, .int .u8 h3, .int .u8 1, .int .u32 h5, .int .u32 h6, .string h7] 57)).cell? ⟨w1.heap.size, 3, none⟩ = some (.int .u8 h3) := e1.at_ 3
  have xe1_4 : (w1.alloc (.cells #[.int .u8 h0, .int .u16 h1, .bool h2, .int .u8 h3, .int .u8 1, .int .u32 h5, .int .u32 h6, .string h7] 57)).cell? ⟨w1.heap.size, 4, none⟩ = some (.int .u8 1) := e1.at_ 4
  have xe1_5 : (w1.alloc (.cells #[.int .u8 h0, .int .u16 h1, .bool h2, .int .u8 h3, .int .u8 1, .int .u32 h5, .int .u32 h6, .string h7] 57)).cell? ⟨w1.heap.size, 5, none⟩ = some (.int .u32 h5) := e1.at_ 5
  have xe1_6 : (w1.alloc (.cells #[.int .u8 h0, .int .u16 h1, .bool h2, .int .u8 h3, .int .u8 1, .int .u32 h5, .int .u32 h6, .string h7] 57)).cell? ⟨w1.heap.size, 6, none⟩ = some (.int .u32 h6) := e1.at_ 6
  have xe1_7 : (w1.alloc (.cells #[.int .u8 h0, .int .u16 h1, .bool h2, .int .u8 h3, .int .u8 1, .int .u32 h5, .int .u32 h6, .string h7] 57)).cell? ⟨w1.heap.size, 7, none⟩ = some (.string h7) := e1.at_ 7
  have d3 := Cells.alloc (Cells.alloc d1 (.cells #[.int .u8 h0, .int .u16 h1, .bool h2, .int .u8 h3, .int .u8 1, .int .u32 h5, .int .u32 h6, .string h7] 57)) (.cells #[.int .u8 1, .int .u32 h5, .int .u16 0, .int .u32 h6, .int .u16 0, .int .i64 2, .int .u8 0, .bool false, .int .u8 h3] 54)
  have e3 := Cells.alloc e1 (.cells #[.int .u8 1, .int .u32 h5, .int .u16 0, .int .u32 h6, .int .u16 0, .int .i64 2, .int .u8 0, .bool false, .int .u8 h3] 54)
  have xe3_4 : (((w1.alloc (.cells #[.int .u8 h0, .int .u16 h1, .bool h2, .int .u8 h3, .int .u8 1, .int .u32 h5, .int .u32 h6, .string h7] 57)).alloc (.cells #[.int .u8 1, .int .u32 h5, .int .u16 0, .int .u32 h6, .int .u16 0, .int .i64 2, .int .u8 0, .bool false, .int .u8 h3] 54))).cell? ⟨w1.heap.size, 4, none⟩ = some (.int .u8 1) := e3.at_ 4
  have x3 : Cells ((w1.alloc (.cells #[.int .u8 h0, .int .u16 h1, .bool h2, .int .u8 h3, .int .u8 1, .int .u32 h5, .int .u32 h6, .string h7] 57)).alloc (.cells #[.int .u8 1, .int .u32 h5, .int .u16 0, .int .u32 h6, .int .u16 0, .int .i64 2, .int .u8 0, .bool false, .int .u8 h3] 54)) (w1.heap.size + 1) #[.int .u8 1, .int .u32 h5, .int .u16 0, .int .u32 h6, .int .u16 0, .int .i64 2, .int .u8 0, .bool false, .int .u8 h3] 54 := by
    have := Cells.new (w1.alloc (.cells #[.int .u8 h0, .int .u16 h1, .bool h2, .int .u8 h3, .int .u8 1, .int .u32 h5, .int .u32 h6, .string h7] 57)) #[.int .u8 1, .int .u32 h5, .int .u16 0, .int .u32 h6, .int .u16 0, .int .i64 2, .int .u8 0, .bool false, .int .u8 h3] 54
    rw [show (w1.alloc (.cells #[.int .u8 h0, .int .u16 h1, .bool h2, .int .u8 h3, .int .u8 1, .int .u32 h5, .int .u32 h6, .string h7] 57)).heap.size = w1.heap.size + 1 from by simp] at this
    exact this
  have b3 : Below w.heap.size w ((w1.alloc (.cells #[.int .u8 h0, .int .u16 h1, .bool h2, .int .u8 h3, .int .u8 1, .int .u32 h5, .int .u32 h6, .string h7] 57)).alloc (.cells #[.int .u8 1, .int .u32 h5, .int .u16 0, .int .u32 h6, .int .u16 0, .int .i64 2, .int .u8 0, .bool false, .int .u8 h3] 54)) := bstep (bstep (bstep (fresh_below _ _) b1) (fresh_below _ _)) (fresh_below _ _)
  have hlt : w.heap.size ≠ w1.heap.size + 1 := by have := d1.lt; omega
  have hle : w.heap.size ≤ w1.heap.size + 1 := by have := d1.lt; omega
  have D3 := hide d3; have X3 := hide x3; have B3 := hide b3; have HN := hide hlt; have HL := hide hle
  clear d0 d1 e1 d3 e3 x3 b3 b1 hlt hle
  go_wp2_with fail
  (with_reducible refine (C2.out _).mono ?_)
  rintro e w4 ⟨rfl, b4⟩
  have d4 := Cells.alloc (Cells.below b4 D3.out) (.cells #[.int .u8 0, .int .u8 0, .int .u16 0, .string { data := #[] }, .string { data := #[] }] 100)
  have x4 := Cells.alloc (Cells.below b4 X3.out) (.cells #[.int .u8 0, .int .u8 0, .int .u16 0, .string { data := #[] }, .string { data := #[] }] 100)
  have e4 := Cells.new w4 #[.int .u8 0, .int .u8 0, .int .u16 0, .string { data := #[] }, .string { data := #[] }] 100
  have b5 : Below w.heap.size w (w4.alloc (.cells #[.int .u8 0, .int .u8 0, .int .u16 0, .string { data := #[] }, .string { data := #[] }] 100)) := bstep (bstep B3.out b4) (fresh_below _ _)
  have hgw : w4.heap.size ≠ w.heap.size := by have := (Cells.below b4 D3.out).lt; omega
  have hgx : w4.heap.size ≠ w1.heap.size + 1 := by have := (Cells.below b4 X3.out).lt; omega
  have HGW := hide hgw; have HGX := hide hgx
  clear D3 X3 B3 b4 C1 C2 hgw hgx
  have xd4_0 : ((w4.alloc (.cells #[.int .u8 0, .int .u8 0, .int .u16 0, .string { data := #[] }, .string { data := #[] }] 100))).cell? ⟨w.heap.size, 0, none⟩ = some (.int .u8 0) := d4.at_ 0
  have xd4_1 : ((w4.alloc (.cells #[.int .u8 0, .int .u8 0, .int .u16 0, .string { data := #[] }, .string { data := #[] }] 100))).cell? ⟨w.heap.size, 1, none⟩ = some (.int .u32 0) := d4.at_ 1
  have xd4_2 : ((w4.alloc (.cells #[.int .u8 0, .int .u8 0, .int .u16 0, .string { data := #[] }, .string { data := #[] }] 100))).cell? ⟨w.heap.size, 2, none⟩ = some (.int .u16 0) := d4.at_ 2
  have xd4_3 : ((w4.alloc (.cells #[.int .u8 0, .int .u8 0, .int .u16 0, .string { data := #[] }, .string { data := #[] }] 100))).cell? ⟨w.heap.size, 3, none⟩ = some (.int .u32 0) := d4.at_ 3
  have xd4_4 : ((w4.alloc (.cells #[.int .u8 0, .int .u8 0, .int .u16 0, .string { data := #[] }, .string { data := #[] }] 100))).cell? ⟨w.heap.size, 4, none⟩ = some (.int .u16 0) := d4.at_ 4
  have xd4_5 : ((w4.alloc (.cells #[.int .u8 0, .int .u8 0, .int .u16 0, .string { data := #[] }, .string { data := #[] }] 100))).cell? ⟨w.heap.size, 5, none⟩ = some (.int .i64 0) := d4.at_ 5
  have xd4_6 : ((w4.alloc (.cells #[.int .u8 0, .int .u8 0, .int .u16 0, .string { data := #[] }, .string { data := #[] }] 100))).cell? ⟨w.heap.size, 6, none⟩ = some (.int .u8 0) := d4.at_ 6
  have xd4_7 : ((w4.alloc (.cells #[.int .u8 0, .int .u8 0, .int .u16 0, .string { data := #[] }, .string { data := #[] }] 100))).cell? ⟨w.heap.size, 7, none⟩ = some (.bool false) := d4.at_ 7
  have xd4_8 : ((w4.alloc (.cells #[.int .u8 0, .int .u8 0, .int .u16 0, .string { data := #[] }, .string { data := #[] }] 100))).cell? ⟨w.heap.size, 8, none⟩ = some (.int .u8 0) := d4.at_ 8
  have yd4_0 : ((w4.alloc (.cells #[.int .u8 0, .int .u8 0, .int .u16 0, .string { data := #[] }, .string { data := #[] }] 100))).frozen? ⟨w.heap.size, 0, none⟩ = false := d4.free 0
  have yd4_1 : ((w4.alloc (.cells #[.int .u8 0, .int .u8 0, .int .u16 0, .string { data := #[] }, .string { data := #[] }] 100))).frozen? ⟨w.heap.size, 1, none⟩ = false := d4.free 1
  have yd4_2 : ((w4.alloc (.cells #[.int .u8 0, .int .u8 0, .int .u16 0, .string { data := #[] }, .string { data := #[] }] 100))).frozen? ⟨w.heap.size, 2, none⟩ = false := d4.free 2
  have yd4_3 : ((w4.alloc (.cells #[.int .u8 0, .int .u8 0, .int .u16 0, .string { data := #[] }, .string { data := #[] }] 100))).frozen? ⟨w.heap.size, 3, none⟩ = false := d4.free 3
  have yd4_4 : ((w4.alloc (.cells #[.int .u8 0, .int .u8 0, .int .u16 0, .string { data := #[] }, .string { data := #[] }] 100))).frozen? ⟨w.heap.size, 4, none⟩ = false := d4.free 4
  have yd4_5 : ((w4.alloc (.cells #[.int .u8 0, .int .u8 0, .int .u16 0, .string { data := #[] }, .string { data := #[] }] 100))).frozen? ⟨w.heap.size, 5, none⟩ = false := d4.free 5
  have yd4_6 : ((w4.alloc (.cells #[.int .u8 0, .int .u8 0, .int .u16 0, .string { data := #[] }, .string { data := #[] }] 100))).frozen? ⟨w.heap.size, 6, none⟩ = false := d4.free 6
  have yd4_7 : ((w4.alloc (.cells #[.int .u8 0, .int .u8 0, .int .u16 0, .string { data := #[] }, .string { data := #[] }] 100))).frozen? ⟨w.heap.size, 7, none⟩ = false := d4.free 7
  have yd4_8 : ((w4.alloc (.cells #[.int .u8 0, .int .u8 0, .int .u16 0, .string { data := #[] }, .string { data := #[] }] 100))).frozen? ⟨w.heap.size, 8, none⟩ = false := d4.free 8
  go_wp2_with fail
  generalize (w4.alloc (.cells #[.int .u8 0, .int .u8 0, .int .u16 0, .string { data := #[] }, .string { data := #[] }] 100)) = W at *
  have r5 := (Cells.put9 d4 (.int .u8 0) (.int .u32 0) (.int .u16 0) (.int .u32 0) (.int .u16 0) (.int .i64 0) (.int .u8 0) (.bool false) (.int .u8 0))
  have b5 := (Below.put9 b5 (b := w.heap.size) (by first | exact Nat.le_refl _ | omega) (.int .u8 0) (.int .u32 0) (.int .u16 0) (.int .u32 0) (.int .u16 0) (.int .i64 0) (.int .u8 0) (.bool false) (.int .u8 0))
  have HR5 := hide r5; have HB5 := hide b5
  clear r5 b5 d4
  generalize (((((((((W.setCell ⟨w.heap.size, 0, none⟩ (.int .u8 0)).setCell ⟨w.heap.size, 1, none⟩ (.int .u32 0)).setCell ⟨w.heap.size, 2, none⟩ (.int .u16 0)).setCell ⟨w.heap.size, 3, none⟩ (.int .u32 0)).setCell ⟨w.heap.size, 4, none⟩ (.int .u16 0)).setCell ⟨w.heap.size, 5, none⟩ (.int .i64 0)).setCell ⟨w.heap.size, 6, none⟩ (.int .u8 0)).setCell ⟨w.heap.size, 7, none⟩ (.bool false)).setCell ⟨w.heap.size, 8, none⟩ (.int .u8 0)) = W5 at *
  have r5 := HR5.out; have b5 := HB5.out
  clear HR5 HB5
  have xr5_0 : W5.cell? ⟨w.heap.size, 0, none⟩ = some (.int .u8 0) := r5.at_ 0
  have xr5_1 : W5.cell? ⟨w.heap.size, 1, none⟩ = some (.int .u32 0) := r5.at_ 1
  have xr5_2 : W5.cell? ⟨w.heap.size, 2, none⟩ = some (.int .u16 0) := r5.at_ 2
  have xr5_3 : W5.cell? ⟨w.heap.size, 3, none⟩ = some (.int .u32 0) := r5.at_ 3
  have xr5_4 : W5.cell? ⟨w.heap.size, 4, none⟩ = some (.int .u16 0) := r5.at_ 4
  have xr5_5 : W5.cell? ⟨w.heap.size, 5, none⟩ = some (.int .i64 0) := r5.at_ 5
  have xr5_6 : W5.cell? ⟨w.heap.size, 6, none⟩ = some (.int .u8 0) := r5.at_ 6
  have xr5_7 : W5.cell? ⟨w.heap.size, 7, none⟩ = some (.bool false) := r5.at_ 7
  have xr5_8 : W5.cell? ⟨w.heap.size, 8, none⟩ = some (.int .u8 0) := r5.at_ 8
  (try simp only [Exit.inBlock, Exit.then]); refine bodyPost_ret (by simp [results, Tryz.results17, go_sem, *]; try rfl) rfl ?_
  first | exact ⟨rfl, b5⟩ | exact ⟨rfl, b5.drew⟩

set_option maxRecDepth 100000 in
set_option maxHeartbeats 4000000 in
theorem o_Of_msg_none (s l : ByteArray) (w : World) (h0 h1 h3 h5 h6 : Int) (h2 : Bool) (h7 : ByteArray) (m0 m1 m2 id : Int) (m3 m4 : ByteArray)
    (c1 : ∀ W, Calls Tryz.prog 18 #[.string s] W (Ret (.tuple #[.agg #[.int .u8 h0, .int .u16 h1, .bool h2, .int .u8 h3, .int .u8 1, .int .u32 h5, .int .u32 h6, .string h7], .string l, .int .i64 0]) W))
    (c2 : ∀ W, Calls Tryz.prog 45 #[.string l] W (Ret (.tuple #[.agg #[.int .u8 m0, .int .u8 m1, .int .u16 m2, .string m3, .string m4], .bool true]) W))
    (c3 : ∀ W, Calls Tryz.prog 46 #[.agg #[.int .u8 m0, .int .u8 m1, .int .u16 m2, .string m3, .string m4]] W (Ret (.tuple #[.bool false, .bool false]) W))
    (c4 : ∀ W, Calls Tryz.prog 47 #[.agg #[.int .u8 m0, .int .u8 m1, .int .u16 m2, .string m3, .string m4]] W (Ret (.bool false) W))
    (c5 : ∀ W, Calls Tryz.prog 48 #[.agg #[.int .u8 m0, .int .u8 m1, .int .u16 m2, .string m3, .string m4]] W (Ret (.int .u16 id) W)) :
    Calls Tryz.prog 17 #[.string s] w (Ret (.tuple #[.agg #[.int .u8 0, .int .u32 0, .int .u16 0, .int .u32 0, .int .u16 0, .int .i64 0, .int .u8 0, .bool false, .int .u8 0], .int .i64 6]) w) := by
  have C1 := hide c1; have C2 := hide c2; have C3 := hide c3; have C4 := hide c4; have C5 := hide c5
  clear c1 c2 c3 c4 c5
  go_enter Tryz.func17, Tryz.ntmps17
  have d0 := Cells.new w #[.int .u8 0, .int .u32 0, .int .u16 0, .int .u32 0, .int .u16 0, .int .i64 0, .int .u8 0, .bool false, .int .u8 0] 54
  go_wp2_with fail
  (with_reducible refine (C1.out _).mono ?_)
  rintro e w1 ⟨rfl, b1⟩
  have d1 := Cells.below b1 d0
  have e1 := Cells.new w1 #[.int .u8 h0, .int .u16 h1, .bool h2, .int .u8 h3, .int .u8 1, .int .u32 h5, .int .u32 h6, .string h7] 57
  have xe1_0 : (w1.alloc (.cells #[.int .u8 h0, .int .u16 h1, .bool h2, .int .u8 h3, .int .u8 1, .int .u32 h5, .int .u32 h6, .string h7] 57)).cell? ⟨w1.heap.size, 0, none⟩ = some (.int .u8 h0) := e1.at_ 0
  have xe1_1 : (w1.alloc (.cells #[.int .u8 h0, .int .u16 h1, .bool h2, .int .u8 h3, .int .u8 1, .int .u32 h5, .int .u32 h6, .string h7] 57)).cell? ⟨w1.heap.size, 1, none⟩ = some (.int .u16 h1) := e1.at_ 1
  have xe1_2 : (w1.alloc (.cells #[.int .u8 h0, .int .u16 h1, .bool h2, .int .u8 h3, .int .u8 1, .int .u32 h5, .int .u32 h6, .string h7] 57)).cell? ⟨w1.heap.size, 2, none⟩ = some (.bool h2) := e1.at_ 2
  have xe1_3 : (w1.alloc (.cells #[.int .u8 h0, .int .u16 h1, .bool h2, .int .u8 h3, .int .u8 1, .int .u32 h5, .int .u32 h6, .string h7] 57)).cell? ⟨w1.heap.size, 3, none⟩ = some (.int .u8 h3) := e1.at_ 3
  have xe1_4 : (w1.alloc (.cells #[.int .u8 h0, .int .u16 h1, .bool h2, .int .u8 h3, .int .u8 1, .int .u32 h5, .int .u32 h6, .string h7] 57)).cell? ⟨w1.heap.size, 4, none⟩ = some (.int .u8 1) := e1.at_ 4
  have xe1_5 : (w1.alloc (.cells #[.int .u8 h0, .int .u16 h1, .bool h2, .int .u8 h3, .int .u8 1, .int .u32 h5, .int .u32 h6, .string h7] 57)).cell? ⟨w1.heap.size, 5, none⟩ = some (.int .u32 h5) := e1.at_ 5
  have xe1_6 : (w1.alloc (.cells #[.int .u8 h0, .int .u16 h1, .bool h2, .int .u8 h3, .int .u8 1, .int .u32 h5, .int .u32 h6, .string h7] 57)).cell? ⟨w1.heap.size, 6, none⟩ = some (.int .u32 h6) := e1.at_ 6
  have xe1_7 : (w1.alloc (.cells #[.int .u8 h0, .int .u16 h1, .bool h2, .int .u8 h3, .int .u8 1, .int .u32 h5, .int .u32 h6, .string h7] 57)).cell? ⟨w1.heap.size, 7, none⟩ = some (.string h7) := e1.at_ 7
  have d3 := Cells.alloc (Cells.alloc d1 (.cells #[.int .u8 h0, .int .u16 h1, .bool h2, .int .u8 h3, .int .u8 1, .int .u32 h5, .int .u32 h6, .string h7] 57)) (.cells #[.int .u8 1, .int .u32 h5, .int .u16 0, .int .u32 h6, .int .u16 0, .int .i64 2, .int .u8 0, .bool false, .int .u8 h3] 54)
  have e3 := Cells.alloc e1 (.cells #[.int .u8 1, .int .u32 h5, .int .u16 0, .int .u32 h6, .int .u16 0, .int .i64 2, .int .u8 0, .bool false, .int .u8 h3] 54)
  have xe3_4 : (((w1.alloc (.cells #[.int .u8 h0, .int .u16 h1, .bool h2, .int .u8 h3, .int .u8 1, .int .u32 h5, .int .u32 h6, .string h7] 57)).alloc (.cells #[.int .u8 1, .int .u32 h5, .int .u16 0, .int .u32 h6, .int .u16 0, .int .i64 2, .int .u8 0, .bool false, .int .u8 h3] 54))).cell? ⟨w1.heap.size, 4, none⟩ = some (.int .u8 1) := e3.at_ 4
  have x3 : Cells ((w1.alloc (.cells #[.int .u8 h0, .int .u16 h1, .bool h2, .int .u8 h3, .int .u8 1, .int .u32 h5, .int .u32 h6, .string h7] 57)).alloc (.cells #[.int .u8 1, .int .u32 h5, .int .u16 0, .int .u32 h6, .int .u16 0, .int .i64 2, .int .u8 0, .bool false, .int .u8 h3] 54)) (w1.heap.size + 1) #[.int .u8 1, .int .u32 h5, .int .u16 0, .int .u32 h6, .int .u16 0, .int .i64 2, .int .u8 0, .bool false, .int .u8 h3] 54 := by
    have := Cells.new (w1.alloc (.cells #[.int .u8 h0, .int .u16 h1, .bool h2, .int .u8 h3, .int .u8 1, .int .u32 h5, .int .u32 h6, .string h7] 57)) #[.int .u8 1, .int .u32 h5, .int .u16 0, .int .u32 h6, .int .u16 0, .int .i64 2, .int .u8 0, .bool false, .int .u8 h3] 54
    rw [show (w1.alloc (.cells #[.int .u8 h0, .int .u16 h1, .bool h2, .int .u8 h3, .int .u8 1, .int .u32 h5, .int .u32 h6, .string h7] 57)).heap.size = w1.heap.size + 1 from by simp] at this
    exact this
  have b3 : Below w.heap.size w ((w1.alloc (.cells #[.int .u8 h0, .int .u16 h1, .bool h2, .int .u8 h3, .int .u8 1, .int .u32 h5, .int .u32 h6, .string h7] 57)).alloc (.cells #[.int .u8 1, .int .u32 h5, .int .u16 0, .int .u32 h6, .int .u16 0, .int .i64 2, .int .u8 0, .bool false, .int .u8 h3] 54)) := bstep (bstep (bstep (fresh_below _ _) b1) (fresh_below _ _)) (fresh_below _ _)
  have hlt : w.heap.size ≠ w1.heap.size + 1 := by have := d1.lt; omega
  have hle : w.heap.size ≤ w1.heap.size + 1 := by have := d1.lt; omega
  have D3 := hide d3; have X3 := hide x3; have B3 := hide b3; have HN := hide hlt; have HL := hide hle
  clear d0 d1 e1 d3 e3 x3 b3 b1 hlt hle
  go_wp2_with fail
  (with_reducible refine (C2.out _).mono ?_)
  rintro e w4 ⟨rfl, b4⟩
  have d4 := Cells.alloc (Cells.below b4 D3.out) (.cells #[.int .u8 m0, .int .u8 m1, .int .u16 m2, .string m3, .string m4] 100)
  have x4 := Cells.alloc (Cells.below b4 X3.out) (.cells #[.int .u8 m0, .int .u8 m1, .int .u16 m2, .string m3, .string m4] 100)
  have e4 := Cells.new w4 #[.int .u8 m0, .int .u8 m1, .int .u16 m2, .string m3, .string m4] 100
  have b5 : Below w.heap.size w (w4.alloc (.cells #[.int .u8 m0, .int .u8 m1, .int .u16 m2, .string m3, .string m4] 100)) := bstep (bstep B3.out b4) (fresh_below _ _)
  have hgw : w4.heap.size ≠ w.heap.size := by have := (Cells.below b4 D3.out).lt; omega
  have hgx : w4.heap.size ≠ w1.heap.size + 1 := by have := (Cells.below b4 X3.out).lt; omega
  have HGW := hide hgw; have HGX := hide hgx
  clear D3 X3 B3 b4 C1 C2 hgw hgx
  have xe4_0 : ((w4.alloc (.cells #[.int .u8 m0, .int .u8 m1, .int .u16 m2, .string m3, .string m4] 100))).cell? ⟨w4.heap.size, 0, none⟩ = some (.int .u8 m0) := e4.at_ 0
  have xe4_1 : ((w4.alloc (.cells #[.int .u8 m0, .int .u8 m1, .int .u16 m2, .string m3, .string m4] 100))).cell? ⟨w4.heap.size, 1, none⟩ = some (.int .u8 m1) := e4.at_ 1
  have xe4_2 : ((w4.alloc (.cells #[.int .u8 m0, .int .u8 m1, .int .u16 m2, .string m3, .string m4] 100))).cell? ⟨w4.heap.size, 2, none⟩ = some (.int .u16 m2) := e4.at_ 2
  have xe4_3 : ((w4.alloc (.cells #[.int .u8 m0, .int .u8 m1, .int .u16 m2, .string m3, .string m4] 100))).cell? ⟨w4.heap.size, 3, none⟩ = some (.string m3) := e4.at_ 3
  have xe4_4 : ((w4.alloc (.cells #[.int .u8 m0, .int .u8 m1, .int .u16 m2, .string m3, .string m4] 100))).cell? ⟨w4.heap.size, 4, none⟩ = some (.string m4) := e4.at_ 4
  have E4 := hide e4; have X4 := hide x4; have D4 := hide d4; have B5 := hide b5
  clear d4 b5 x4 e4
  go_wp2_with fail
  (with_reducible refine (C3.out _).mono ?_)
  rintro e w6 ⟨rfl, b6⟩
  have d6 := Cells.below b6 D4.out
  have x6 := Cells.below b6 X4.out
  have e6 := Cells.below b6 E4.out
  have bb6 : Below w.heap.size w w6 := bstep B5.out b6
  clear E4 X4 D4 B5 b6
  have xe6_0 : w6.cell? ⟨w4.heap.size, 0, none⟩ = some (.int .u8 m0) := e6.at_ 0
  have xe6_1 : w6.cell? ⟨w4.heap.size, 1, none⟩ = some (.int .u8 m1) := e6.at_ 1
  have xe6_2 : w6.cell? ⟨w4.heap.size, 2, none⟩ = some (.int .u16 m2) := e6.at_ 2
  have xe6_3 : w6.cell? ⟨w4.heap.size, 3, none⟩ = some (.string m3) := e6.at_ 3
  have xe6_4 : w6.cell? ⟨w4.heap.size, 4, none⟩ = some (.string m4) := e6.at_ 4
  have E4 := hide e6; have X4 := hide x6; have D4 := hide d6; have B5 := hide bb6
  clear d6 x6 e6 bb6
  go_wp2_with fail
  (with_reducible refine (C4.out _).mono ?_)
  rintro e w7 ⟨rfl, b7⟩
  have d6 := Cells.below b7 D4.out
  have x6 := Cells.below b7 X4.out
  have e6 := Cells.below b7 E4.out
  have bb6 : Below w.heap.size w w7 := bstep B5.out b7
  clear E4 X4 D4 B5 b7
  have xd6_0 : w7.cell? ⟨w.heap.size, 0, none⟩ = some (.int .u8 0) := d6.at_ 0
  have xd6_1 : w7.cell? ⟨w.heap.size, 1, none⟩ = some (.int .u32 0) := d6.at_ 1
  have xd6_2 : w7.cell? ⟨w.heap.size, 2, none⟩ = some (.int .u16 0) := d6.at_ 2
  have xd6_3 : w7.cell? ⟨w.heap.size, 3, none⟩ = some (.int .u32 0) := d6.at_ 3
  have xd6_4 : w7.cell? ⟨w.heap.size, 4, none⟩ = some (.int .u16 0) := d6.at_ 4
  have xd6_5 : w7.cell? ⟨w.heap.size, 5, none⟩ = some (.int .i64 0) := d6.at_ 5
  have xd6_6 : w7.cell? ⟨w.heap.size, 6, none⟩ = some (.int .u8 0) := d6.at_ 6
  have xd6_7 : w7.cell? ⟨w.heap.size, 7, none⟩ = some (.bool false) := d6.at_ 7
  have xd6_8 : w7.cell? ⟨w.heap.size, 8, none⟩ = some (.int .u8 0) := d6.at_ 8
  have yd6_0 : w7.frozen? ⟨w.heap.size, 0, none⟩ = false := d6.free 0
  have yd6_1 : w7.frozen? ⟨w.heap.size, 1, none⟩ = false := d6.free 1
  have yd6_2 : w7.frozen? ⟨w.heap.size, 2, none⟩ = false := d6.free 2
  have yd6_3 : w7.frozen? ⟨w.heap.size, 3, none⟩ = false := d6.free 3
  have yd6_4 : w7.frozen? ⟨w.heap.size, 4, none⟩ = false := d6.free 4
  have yd6_5 : w7.frozen? ⟨w.heap.size, 5, none⟩ = false := d6.free 5
  have yd6_6 : w7.frozen? ⟨w.heap.size, 6, none⟩ = false := d6.free 6
  have yd6_7 : w7.frozen? ⟨w.heap.size, 7, none⟩ = false := d6.free 7
  have yd6_8 : w7.frozen? ⟨w.heap.size, 8, none⟩ = false := d6.free 8
  go_wp2_with fail
  generalize w7 = W at *
  have r5 := (Cells.put9 d6 (.int .u8 0) (.int .u32 0) (.int .u16 0) (.int .u32 0) (.int .u16 0) (.int .i64 0) (.int .u8 0) (.bool false) (.int .u8 0))
  have b5 := (Below.put9 bb6 (b := w.heap.size) (by first | exact Nat.le_refl _ | omega) (.int .u8 0) (.int .u32 0) (.int .u16 0) (.int .u32 0) (.int .u16 0) (.int .i64 0) (.int .u8 0) (.bool false) (.int .u8 0))
  have HR5 := hide r5; have HB5 := hide b5
  clear r5 b5 d6
  generalize (((((((((W.setCell ⟨w.heap.size, 0, none⟩ (.int .u8 0)).setCell ⟨w.heap.size, 1, none⟩ (.int .u32 0)).setCell ⟨w.heap.size, 2, none⟩ (.int .u16 0)).setCell ⟨w.heap.size, 3, none⟩ (.int .u32 0)).setCell ⟨w.heap.size, 4, none⟩ (.int .u16 0)).setCell ⟨w.heap.size, 5, none⟩ (.int .i64 0)).setCell ⟨w.heap.size, 6, none⟩ (.int .u8 0)).setCell ⟨w.heap.size, 7, none⟩ (.bool false)).setCell ⟨w.heap.size, 8, none⟩ (.int .u8 0)) = W5 at *
  have r5 := HR5.out; have b5 := HB5.out
  clear HR5 HB5
  have xr5_0 : W5.cell? ⟨w.heap.size, 0, none⟩ = some (.int .u8 0) := r5.at_ 0
  have xr5_1 : W5.cell? ⟨w.heap.size, 1, none⟩ = some (.int .u32 0) := r5.at_ 1
  have xr5_2 : W5.cell? ⟨w.heap.size, 2, none⟩ = some (.int .u16 0) := r5.at_ 2
  have xr5_3 : W5.cell? ⟨w.heap.size, 3, none⟩ = some (.int .u32 0) := r5.at_ 3
  have xr5_4 : W5.cell? ⟨w.heap.size, 4, none⟩ = some (.int .u16 0) := r5.at_ 4
  have xr5_5 : W5.cell? ⟨w.heap.size, 5, none⟩ = some (.int .i64 0) := r5.at_ 5
  have xr5_6 : W5.cell? ⟨w.heap.size, 6, none⟩ = some (.int .u8 0) := r5.at_ 6
  have xr5_7 : W5.cell? ⟨w.heap.size, 7, none⟩ = some (.bool false) := r5.at_ 7
  have xr5_8 : W5.cell? ⟨w.heap.size, 8, none⟩ = some (.int .u8 0) := r5.at_ 8
  (try simp only [Exit.inBlock, Exit.then]); refine bodyPost_ret (by simp [results, Tryz.results17, go_sem, *]; try rfl) rfl ?_
  first | exact ⟨rfl, b5⟩ | exact ⟨rfl, b5.drew⟩

set_option maxRecDepth 100000 in
set_option maxHeartbeats 4000000 in
theorem o_Of_msg_err (s l : ByteArray) (w : World) (h0 h1 h3 h5 h6 : Int) (h2 : Bool) (h7 : ByteArray) (m0 m1 m2 id : Int) (m3 m4 : ByteArray)
    (c1 : ∀ W, Calls Tryz.prog 18 #[.string s] W (Ret (.tuple #[.agg #[.int .u8 h0, .int .u16 h1, .bool h2, .int .u8 h3, .int .u8 1, .int .u32 h5, .int .u32 h6, .string h7], .string l, .int .i64 0]) W))
    (c2 : ∀ W, Calls Tryz.prog 45 #[.string l] W (Ret (.tuple #[.agg #[.int .u8 m0, .int .u8 m1, .int .u16 m2, .string m3, .string m4], .bool true]) W))
    (c3 : ∀ W, Calls Tryz.prog 46 #[.agg #[.int .u8 m0, .int .u8 m1, .int .u16 m2, .string m3, .string m4]] W (Ret (.tuple #[.bool false, .bool false]) W))
    (c4 : ∀ W, Calls Tryz.prog 47 #[.agg #[.int .u8 m0, .int .u8 m1, .int .u16 m2, .string m3, .string m4]] W (Ret (.bool true) W))
    (c5 : ∀ W, Calls Tryz.prog 48 #[.agg #[.int .u8 m0, .int .u8 m1, .int .u16 m2, .string m3, .string m4]] W (Ret (.int .u16 id) W)) :
    Calls Tryz.prog 17 #[.string s] w (Ret (.tuple #[.agg #[.int .u8 1, .int .u32 h5, .int .u16 0, .int .u32 h6, .int .u16 0, .int .i64 3, .int .u8 0, .bool false, .int .u8 h3], .int .i64 0]) w) := by
  have C1 := hide c1; have C2 := hide c2; have C3 := hide c3; have C4 := hide c4; have C5 := hide c5
  clear c1 c2 c3 c4 c5
  go_enter Tryz.func17, Tryz.ntmps17
  have d0 := Cells.new w #[.int .u8 0, .int .u32 0, .int .u16 0, .int .u32 0, .int .u16 0, .int .i64 0, .int .u8 0, .bool false, .int .u8 0] 54
  go_wp2_with fail
  (with_reducible refine (C1.out _).mono ?_)
  rintro e w1 ⟨rfl, b1⟩
  have d1 := Cells.below b1 d0
  have e1 := Cells.new w1 #[.int .u8 h0, .int .u16 h1, .bool h2, .int .u8 h3, .int .u8 1, .int .u32 h5, .int .u32 h6, .string h7] 57
  have xe1_0 : (w1.alloc (.cells #[.int .u8 h0, .int .u16 h1, .bool h2, .int .u8 h3, .int .u8 1, .int .u32 h5, .int .u32 h6, .string h7] 57)).cell? ⟨w1.heap.size, 0, none⟩ = some (.int .u8 h0) := e1.at_ 0
  have xe1_1 : (w1.alloc (.cells #[.int .u8 h0, .int .u16 h1, .bool h2, .int .u8 h3, .int .u8 1, .int .u32 h5, .int .u32 h6, .string h7] 57)).cell? ⟨w1.heap.size, 1, none⟩ = some (.int .u16 h1) := e1.at_ 1
  have xe1_2 : (w1.alloc (.cells #[.int .u8 h0, .int .u16 h1, .bool h2, .int .u8 h3, .int .u8 1, .int .u32 h5, .int .u32 h6, .string h7] 57)).cell? ⟨w1.heap.size, 2, none⟩ = some (.bool h2) := e1.at_ 2
  have xe1_3 : (w1.alloc (.cells #[.int .u8 h0, .int .u16 h1, .bool h2, .int .u8 h3, .int .u8 1, .int .u32 h5, .int .u32 h6, .string h7] 57)).cell? ⟨w1.heap.size, 3, none⟩ = some (.int .u8 h3) := e1.at_ 3
  have xe1_4 : (w1.alloc (.cells #[.int .u8 h0, .int .u16 h1, .bool h2, .int .u8 h3, .int .u8 1, .int .u32 h5, .int .u32 h6, .string h7] 57)).cell? ⟨w1.heap.size, 4, none⟩ = some (.int .u8 1) := e1.at_ 4
  have xe1_5 : (w1.alloc (.cells #[.int .u8 h0, .int .u16 h1, .bool h2, .int .u8 h3, .int .u8 1, .int .u32 h5, .int .u32 h6, .string h7] 57)).cell? ⟨w1.heap.size, 5, none⟩ = some (.int .u32 h5) := e1.at_ 5
  have xe1_6 : (w1.alloc (.cells #[.int .u8 h0, .int .u16 h1, .bool h2, .int .u8 h3, .int .u8 1, .int .u32 h5, .int .u32 h6, .string h7] 57)).cell? ⟨w1.heap.size, 6, none⟩ = some (.int .u32 h6) := e1.at_ 6
  have xe1_7 : (w1.alloc (.cells #[.int .u8 h0, .int .u16 h1, .bool h2, .int .u8 h3, .int .u8 1, .int .u32 h5, .int .u32 h6, .string h7] 57)).cell? ⟨w1.heap.size, 7, none⟩ = some (.string h7) := e1.at_ 7
  have d3 := Cells.alloc (Cells.alloc d1 (.cells #[.int .u8 h0, .int .u16 h1, .bool h2, .int .u8 h3, .int .u8 1, .int .u32 h5, .int .u32 h6, .string h7] 57)) (.cells #[.int .u8 1, .int .u32 h5, .int .u16 0, .int .u32 h6, .int .u16 0, .int .i64 2, .int .u8 0, .bool false, .int .u8 h3] 54)
  have e3 := Cells.alloc e1 (.cells #[.int .u8 1, .int .u32 h5, .int .u16 0, .int .u32 h6, .int .u16 0, .int .i64 2, .int .u8 0, .bool false, .int .u8 h3] 54)
  have xe3_4 : (((w1.alloc (.cells #[.int .u8 h0, .int .u16 h1, .bool h2, .int .u8 h3, .int .u8 1, .int .u32 h5, .int .u32 h6, .string h7] 57)).alloc (.cells #[.int .u8 1, .int .u32 h5, .int .u16 0, .int .u32 h6, .int .u16 0, .int .i64 2, .int .u8 0, .bool false, .int .u8 h3] 54))).cell? ⟨w1.heap.size, 4, none⟩ = some (.int .u8 1) := e3.at_ 4
  have x3 : Cells ((w1.alloc (.cells #[.int .u8 h0, .int .u16 h1, .bool h2, .int .u8 h3, .int .u8 1, .int .u32 h5, .int .u32 h6, .string h7] 57)).alloc (.cells #[.int .u8 1, .int .u32 h5, .int .u16 0, .int .u32 h6, .int .u16 0, .int .i64 2, .int .u8 0, .bool false, .int .u8 h3] 54)) (w1.heap.size + 1) #[.int .u8 1, .int .u32 h5, .int .u16 0, .int .u32 h6, .int .u16 0, .int .i64 2, .int .u8 0, .bool false, .int .u8 h3] 54 := by
    have := Cells.new (w1.alloc (.cells #[.int .u8 h0, .int .u16 h1, .bool h2, .int .u8 h3, .int .u8 1, .int .u32 h5, .int .u32 h6, .string h7] 57)) #[.int .u8 1, .int .u32 h5, .int .u16 0, .int .u32 h6, .int .u16 0, .int .i64 2, .int .u8 0, .bool false, .int .u8 h3] 54
    rw [show (w1.alloc (.cells #[.int .u8 h0, .int .u16 h1, .bool h2, .int .u8 h3, .int .u8 1, .int .u32 h5, .int .u32 h6, .string h7] 57)).heap.size = w1.heap.size + 1 from by simp] at this
    exact this
  have b3 : Below w.heap.size w ((w1.alloc (.cells #[.int .u8 h0, .int .u16 h1, .bool h2, .int .u8 h3, .int .u8 1, .int .u32 h5, .int .u32 h6, .string h7] 57)).alloc (.cells #[.int .u8 1, .int .u32 h5, .int .u16 0, .int .u32 h6, .int .u16 0, .int .i64 2, .int .u8 0, .bool false, .int .u8 h3] 54)) := bstep (bstep (bstep (fresh_below _ _) b1) (fresh_below _ _)) (fresh_below _ _)
  have hlt : w.heap.size ≠ w1.heap.size + 1 := by have := d1.lt; omega
  have hle : w.heap.size ≤ w1.heap.size + 1 := by have := d1.lt; omega
  have D3 := hide d3; have X3 := hide x3; have B3 := hide b3; have HN := hide hlt; have HL := hide hle
  clear d0 d1 e1 d3 e3 x3 b3 b1 hlt hle
  go_wp2_with fail
  (with_reducible refine (C2.out _).mono ?_)
  rintro e w4 ⟨rfl, b4⟩
  have d4 := Cells.alloc (Cells.below b4 D3.out) (.cells #[.int .u8 m0, .int .u8 m1, .int .u16 m2, .string m3, .string m4] 100)
  have x4 := Cells.alloc (Cells.below b4 X3.out) (.cells #[.int .u8 m0, .int .u8 m1, .int .u16 m2, .string m3, .string m4] 100)
  have e4 := Cells.new w4 #[.int .u8 m0, .int .u8 m1, .int .u16 m2, .string m3, .string m4] 100
  have b5 : Below w.heap.size w (w4.alloc (.cells #[.int .u8 m0, .int .u8 m1, .int .u16 m2, .string m3, .string m4] 100)) := bstep (bstep B3.out b4) (fresh_below _ _)
  have hgw : w4.heap.size ≠ w.heap.size := by have := (Cells.below b4 D3.out).lt; omega
  have hgx : w4.heap.size ≠ w1.heap.size + 1 := by have := (Cells.below b4 X3.out).lt; omega
  have HGW := hide hgw; have HGX := hide hgx
  clear D3 X3 B3 b4 C1 C2 hgw hgx
  have xe4_0 : ((w4.alloc (.cells #[.int .u8 m0, .int .u8 m1, .int .u16 m2, .string m3, .string m4] 100))).cell? ⟨w4.heap.size, 0, none⟩ = some (.int .u8 m0) := e4.at_ 0
  have xe4_1 : ((w4.alloc (.cells #[.int .u8 m0, .int .u8 m1, .int .u16 m2, .string m3, .string m4] 100))).cell? ⟨w4.heap.size, 1, none⟩ = some (.int .u8 m1) := e4.at_ 1
  have xe4_2 : ((w4.alloc (.cells #[.int .u8 m0, .int .u8 m1, .int .u16 m2, .string m3, .string m4] 100))).cell? ⟨w4.heap.size, 2, none⟩ = some (.int .u16 m2) := e4.at_ 2
  have xe4_3 : ((w4.alloc (.cells #[.int .u8 m0, .int .u8 m1, .int .u16 m2, .string m3, .string m4] 100))).cell? ⟨w4.heap.size, 3, none⟩ = some (.string m3) := e4.at_ 3
  have xe4_4 : ((w4.alloc (.cells #[.int .u8 m0, .int .u8 m1, .int .u16 m2, .string m3, .string m4] 100))).cell? ⟨w4.heap.size, 4, none⟩ = some (.string m4) := e4.at_ 4
  have E4 := hide e4; have X4 := hide x4; have D4 := hide d4; have B5 := hide b5
  clear d4 b5 x4 e4
  go_wp2_with fail
  (with_reducible refine (C3.out _).mono ?_)
  rintro e w6 ⟨rfl, b6⟩
  have d6 := Cells.below b6 D4.out
  have x6 := Cells.below b6 X4.out
  have e6 := Cells.below b6 E4.out
  have bb6 : Below w.heap.size w w6 := bstep B5.out b6
  clear E4 X4 D4 B5 b6
  have xe6_0 : w6.cell? ⟨w4.heap.size, 0, none⟩ = some (.int .u8 m0) := e6.at_ 0
  have xe6_1 : w6.cell? ⟨w4.heap.size, 1, none⟩ = some (.int .u8 m1) := e6.at_ 1
  have xe6_2 : w6.cell? ⟨w4.heap.size, 2, none⟩ = some (.int .u16 m2) := e6.at_ 2
  have xe6_3 : w6.cell? ⟨w4.heap.size, 3, none⟩ = some (.string m3) := e6.at_ 3
  have xe6_4 : w6.cell? ⟨w4.heap.size, 4, none⟩ = some (.string m4) := e6.at_ 4
  have E4 := hide e6; have X4 := hide x6; have D4 := hide d6; have B5 := hide bb6
  clear d6 x6 e6 bb6
  go_wp2_with fail
  (with_reducible refine (C4.out _).mono ?_)
  rintro e w7 ⟨rfl, b7⟩
  have d6 := Cells.below b7 D4.out
  have x6 := Cells.below b7 X4.out
  have e6 := Cells.below b7 E4.out
  have bb6 : Below w.heap.size w w7 := bstep B5.out b7
  clear E4 X4 D4 B5 b7
  have xx6_0 : w7.cell? ⟨(w1.heap.size + 1), 0, none⟩ = some (.int .u8 1) := x6.at_ 0
  have xx6_1 : w7.cell? ⟨(w1.heap.size + 1), 1, none⟩ = some (.int .u32 h5) := x6.at_ 1
  have xx6_2 : w7.cell? ⟨(w1.heap.size + 1), 2, none⟩ = some (.int .u16 0) := x6.at_ 2
  have xx6_3 : w7.cell? ⟨(w1.heap.size + 1), 3, none⟩ = some (.int .u32 h6) := x6.at_ 3
  have xx6_4 : w7.cell? ⟨(w1.heap.size + 1), 4, none⟩ = some (.int .u16 0) := x6.at_ 4
  have xx6_5 : w7.cell? ⟨(w1.heap.size + 1), 5, none⟩ = some (.int .i64 2) := x6.at_ 5
  have xx6_6 : w7.cell? ⟨(w1.heap.size + 1), 6, none⟩ = some (.int .u8 0) := x6.at_ 6
  have xx6_7 : w7.cell? ⟨(w1.heap.size + 1), 7, none⟩ = some (.bool false) := x6.at_ 7
  have xx6_8 : w7.cell? ⟨(w1.heap.size + 1), 8, none⟩ = some (.int .u8 h3) := x6.at_ 8
  have yx6_0 : w7.frozen? ⟨(w1.heap.size + 1), 0, none⟩ = false := x6.free 0
  have yx6_1 : w7.frozen? ⟨(w1.heap.size + 1), 1, none⟩ = false := x6.free 1
  have yx6_2 : w7.frozen? ⟨(w1.heap.size + 1), 2, none⟩ = false := x6.free 2
  have yx6_3 : w7.frozen? ⟨(w1.heap.size + 1), 3, none⟩ = false := x6.free 3
  have yx6_4 : w7.frozen? ⟨(w1.heap.size + 1), 4, none⟩ = false := x6.free 4
  have yx6_5 : w7.frozen? ⟨(w1.heap.size + 1), 5, none⟩ = false := x6.free 5
  have yx6_6 : w7.frozen? ⟨(w1.heap.size + 1), 6, none⟩ = false := x6.free 6
  have yx6_7 : w7.frozen? ⟨(w1.heap.size + 1), 7, none⟩ = false := x6.free 7
  have yx6_8 : w7.frozen? ⟨(w1.heap.size + 1), 8, none⟩ = false := x6.free 8
  have x8 : Cells (w7.setCell ⟨w1.heap.size + 1, 7, none⟩ (.bool false)) (w1.heap.size + 1) #[.int .u8 1, .int .u32 h5, .int .u16 0, .int .u32 h6, .int .u16 0, .int .i64 2, .int .u8 0, .bool false, .int .u8 h3] 54 := x6.set_ 7 (.bool false)
  have d8 := d6.other HN.out 7 (.bool false)
  have e8 := e6.other HGX.out 7 (.bool false)
  have b8 : Below w.heap.size w (w7.setCell ⟨w1.heap.size + 1, 7, none⟩ (.bool false)) := Below.setCell bb6 (by have := HL.out; dsimp only; omega) _
  have xx8_0 : ((w7.setCell ⟨w1.heap.size + 1, 7, none⟩ (.bool false))).cell? ⟨(w1.heap.size + 1), 0, none⟩ = some (.int .u8 1) := x8.at_ 0
  have xx8_1 : ((w7.setCell ⟨w1.heap.size + 1, 7, none⟩ (.bool false))).cell? ⟨(w1.heap.size + 1), 1, none⟩ = some (.int .u32 h5) := x8.at_ 1
  have xx8_2 : ((w7.setCell ⟨w1.heap.size + 1, 7, none⟩ (.bool false))).cell? ⟨(w1.heap.size + 1), 2, none⟩ = some (.int .u16 0) := x8.at_ 2
  have xx8_3 : ((w7.setCell ⟨w1.heap.size + 1, 7, none⟩ (.bool false))).cell? ⟨(w1.heap.size + 1), 3, none⟩ = some (.int .u32 h6) := x8.at_ 3
  have xx8_4 : ((w7.setCell ⟨w1.heap.size + 1, 7, none⟩ (.bool false))).cell? ⟨(w1.heap.size + 1), 4, none⟩ = some (.int .u16 0) := x8.at_ 4
  have xx8_5 : ((w7.setCell ⟨w1.heap.size + 1, 7, none⟩ (.bool false))).cell? ⟨(w1.heap.size + 1), 5, none⟩ = some (.int .i64 2) := x8.at_ 5
  have xx8_6 : ((w7.setCell ⟨w1.heap.size + 1, 7, none⟩ (.bool false))).cell? ⟨(w1.heap.size + 1), 6, none⟩ = some (.int .u8 0) := x8.at_ 6
  have xx8_7 : ((w7.setCell ⟨w1.heap.size + 1, 7, none⟩ (.bool false))).cell? ⟨(w1.heap.size + 1), 7, none⟩ = some (.bool false) := x8.at_ 7
  have xx8_8 : ((w7.setCell ⟨w1.heap.size + 1, 7, none⟩ (.bool false))).cell? ⟨(w1.heap.size + 1), 8, none⟩ = some (.int .u8 h3) := x8.at_ 8
  have yx8_0 : ((w7.setCell ⟨w1.heap.size + 1, 7, none⟩ (.bool false))).frozen? ⟨(w1.heap.size + 1), 0, none⟩ = false := x8.free 0
  have yx8_1 : ((w7.setCell ⟨w1.heap.size + 1, 7, none⟩ (.bool false))).frozen? ⟨(w1.heap.size + 1), 1, none⟩ = false := x8.free 1
  have yx8_2 : ((w7.setCell ⟨w1.heap.size + 1, 7, none⟩ (.bool false))).frozen? ⟨(w1.heap.size + 1), 2, none⟩ = false := x8.free 2
  have yx8_3 : ((w7.setCell ⟨w1.heap.size + 1, 7, none⟩ (.bool false))).frozen? ⟨(w1.heap.size + 1), 3, none⟩ = false := x8.free 3
  have yx8_4 : ((w7.setCell ⟨w1.heap.size + 1, 7, none⟩ (.bool false))).frozen? ⟨(w1.heap.size + 1), 4, none⟩ = false := x8.free 4
  have yx8_5 : ((w7.setCell ⟨w1.heap.size + 1, 7, none⟩ (.bool false))).frozen? ⟨(w1.heap.size + 1), 5, none⟩ = false := x8.free 5
  have yx8_6 : ((w7.setCell ⟨w1.heap.size + 1, 7, none⟩ (.bool false))).frozen? ⟨(w1.heap.size + 1), 6, none⟩ = false := x8.free 6
  have yx8_7 : ((w7.setCell ⟨w1.heap.size + 1, 7, none⟩ (.bool false))).frozen? ⟨(w1.heap.size + 1), 7, none⟩ = false := x8.free 7
  have yx8_8 : ((w7.setCell ⟨w1.heap.size + 1, 7, none⟩ (.bool false))).frozen? ⟨(w1.heap.size + 1), 8, none⟩ = false := x8.free 8
  have x9 : Cells ((w7.setCell ⟨w1.heap.size + 1, 7, none⟩ (.bool false)).setCell ⟨w1.heap.size + 1, 5, none⟩ (.int .i64 3)) (w1.heap.size + 1) #[.int .u8 1, .int .u32 h5, .int .u16 0, .int .u32 h6, .int .u16 0, .int .i64 3, .int .u8 0, .bool false, .int .u8 h3] 54 := x8.set_ 5 (.int .i64 3)
  have d9 := d8.other HN.out 5 (.int .i64 3)
  have e9 := e8.other HGX.out 5 (.int .i64 3)
  have b9 : Below w.heap.size w ((w7.setCell ⟨w1.heap.size + 1, 7, none⟩ (.bool false)).setCell ⟨w1.heap.size + 1, 5, none⟩ (.int .i64 3)) := Below.setCell b8 (by have := HL.out; dsimp only; omega) _
  have xx9_0 : (((w7.setCell ⟨w1.heap.size + 1, 7, none⟩ (.bool false)).setCell ⟨w1.heap.size + 1, 5, none⟩ (.int .i64 3))).cell? ⟨(w1.heap.size + 1), 0, none⟩ = some (.int .u8 1) := x9.at_ 0
  have xx9_1 : (((w7.setCell ⟨w1.heap.size + 1, 7, none⟩ (.bool false)).setCell ⟨w1.heap.size + 1, 5, none⟩ (.int .i64 3))).cell? ⟨(w1.heap.size + 1), 1, none⟩ = some (.int .u32 h5) := x9.at_ 1
  have xx9_2 : (((w7.setCell ⟨w1.heap.size + 1, 7, none⟩ (.bool false)).setCell ⟨w1.heap.size + 1, 5, none⟩ (.int .i64 3))).cell? ⟨(w1.heap.size + 1), 2, none⟩ = some (.int .u16 0) := x9.at_ 2
  have xx9_3 : (((w7.setCell ⟨w1.heap.size + 1, 7, none⟩ (.bool false)).setCell ⟨w1.heap.size + 1, 5, none⟩ (.int .i64 3))).cell? ⟨(w1.heap.size + 1), 3, none⟩ = some (.int .u32 h6) := x9.at_ 3
  have xx9_4 : (((w7.setCell ⟨w1.heap.size + 1, 7, none⟩ (.bool false)).setCell ⟨w1.heap.size + 1, 5, none⟩ (.int .i64 3))).cell? ⟨(w1.heap.size + 1), 4, none⟩ = some (.int .u16 0) := x9.at_ 4
  have xx9_5 : (((w7.setCell ⟨w1.heap.size + 1, 7, none⟩ (.bool false)).setCell ⟨w1.heap.size + 1, 5, none⟩ (.int .i64 3))).cell? ⟨(w1.heap.size + 1), 5, none⟩ = some (.int .i64 3) := x9.at_ 5
  have xx9_6 : (((w7.setCell ⟨w1.heap.size + 1, 7, none⟩ (.bool false)).setCell ⟨w1.heap.size + 1, 5, none⟩ (.int .i64 3))).cell? ⟨(w1.heap.size + 1), 6, none⟩ = some (.int .u8 0) := x9.at_ 6
  have xx9_7 : (((w7.setCell ⟨w1.heap.size + 1, 7, none⟩ (.bool false)).setCell ⟨w1.heap.size + 1, 5, none⟩ (.int .i64 3))).cell? ⟨(w1.heap.size + 1), 7, none⟩ = some (.bool false) := x9.at_ 7
  have xx9_8 : (((w7.setCell ⟨w1.heap.size + 1, 7, none⟩ (.bool false)).setCell ⟨w1.heap.size + 1, 5, none⟩ (.int .i64 3))).cell? ⟨(w1.heap.size + 1), 8, none⟩ = some (.int .u8 h3) := x9.at_ 8
  have xd9_0 : (((w7.setCell ⟨w1.heap.size + 1, 7, none⟩ (.bool false)).setCell ⟨w1.heap.size + 1, 5, none⟩ (.int .i64 3))).cell? ⟨w.heap.size, 0, none⟩ = some (.int .u8 0) := d9.at_ 0
  have xd9_1 : (((w7.setCell ⟨w1.heap.size + 1, 7, none⟩ (.bool false)).setCell ⟨w1.heap.size + 1, 5, none⟩ (.int .i64 3))).cell? ⟨w.heap.size, 1, none⟩ = some (.int .u32 0) := d9.at_ 1
  have xd9_2 : (((w7.setCell ⟨w1.heap.size + 1, 7, none⟩ (.bool false)).setCell ⟨w1.heap.size + 1, 5, none⟩ (.int .i64 3))).cell? ⟨w.heap.size, 2, none⟩ = some (.int .u16 0) := d9.at_ 2
  have xd9_3 : (((w7.setCell ⟨w1.heap.size + 1, 7, none⟩ (.bool false)).setCell ⟨w1.heap.size + 1, 5, none⟩ (.int .i64 3))).cell? ⟨w.heap.size, 3, none⟩ = some (.int .u32 0) := d9.at_ 3
  have xd9_4 : (((w7.setCell ⟨w1.heap.size + 1, 7, none⟩ (.bool false)).setCell ⟨w1.heap.size + 1, 5, none⟩ (.int .i64 3))).cell? ⟨w.heap.size, 4, none⟩ = some (.int .u16 0) := d9.at_ 4
  have xd9_5 : (((w7.setCell ⟨w1.heap.size + 1, 7, none⟩ (.bool false)).setCell ⟨w1.heap.size + 1, 5, none⟩ (.int .i64 3))).cell? ⟨w.heap.size, 5, none⟩ = some (.int .i64 0) := d9.at_ 5
  have xd9_6 : (((w7.setCell ⟨w1.heap.size + 1, 7, none⟩ (.bool false)).setCell ⟨w1.heap.size + 1, 5, none⟩ (.int .i64 3))).cell? ⟨w.heap.size, 6, none⟩ = some (.int .u8 0) := d9.at_ 6
  have xd9_7 : (((w7.setCell ⟨w1.heap.size + 1, 7, none⟩ (.bool false)).setCell ⟨w1.heap.size + 1, 5, none⟩ (.int .i64 3))).cell? ⟨w.heap.size, 7, none⟩ = some (.bool false) := d9.at_ 7
  have xd9_8 : (((w7.setCell ⟨w1.heap.size + 1, 7, none⟩ (.bool false)).setCell ⟨w1.heap.size + 1, 5, none⟩ (.int .i64 3))).cell? ⟨w.heap.size, 8, none⟩ = some (.int .u8 0) := d9.at_ 8
  have yd9_0 : (((w7.setCell ⟨w1.heap.size + 1, 7, none⟩ (.bool false)).setCell ⟨w1.heap.size + 1, 5, none⟩ (.int .i64 3))).frozen? ⟨w.heap.size, 0, none⟩ = false := d9.free 0
  have yd9_1 : (((w7.setCell ⟨w1.heap.size + 1, 7, none⟩ (.bool false)).setCell ⟨w1.heap.size + 1, 5, none⟩ (.int .i64 3))).frozen? ⟨w.heap.size, 1, none⟩ = false := d9.free 1
  have yd9_2 : (((w7.setCell ⟨w1.heap.size + 1, 7, none⟩ (.bool false)).setCell ⟨w1.heap.size + 1, 5, none⟩ (.int .i64 3))).frozen? ⟨w.heap.size, 2, none⟩ = false := d9.free 2
  have yd9_3 : (((w7.setCell ⟨w1.heap.size + 1, 7, none⟩ (.bool false)).setCell ⟨w1.heap.size + 1, 5, none⟩ (.int .i64 3))).frozen? ⟨w.heap.size, 3, none⟩ = false := d9.free 3
  have yd9_4 : (((w7.setCell ⟨w1.heap.size + 1, 7, none⟩ (.bool false)).setCell ⟨w1.heap.size + 1, 5, none⟩ (.int .i64 3))).frozen? ⟨w.heap.size, 4, none⟩ = false := d9.free 4
  have yd9_5 : (((w7.setCell ⟨w1.heap.size + 1, 7, none⟩ (.bool false)).setCell ⟨w1.heap.size + 1, 5, none⟩ (.int .i64 3))).frozen? ⟨w.heap.size, 5, none⟩ = false := d9.free 5
  have yd9_6 : (((w7.setCell ⟨w1.heap.size + 1, 7, none⟩ (.bool false)).setCell ⟨w1.heap.size + 1, 5, none⟩ (.int .i64 3))).frozen? ⟨w.heap.size, 6, none⟩ = false := d9.free 6
  have yd9_7 : (((w7.setCell ⟨w1.heap.size + 1, 7, none⟩ (.bool false)).setCell ⟨w1.heap.size + 1, 5, none⟩ (.int .i64 3))).frozen? ⟨w.heap.size, 7, none⟩ = false := d9.free 7
  have yd9_8 : (((w7.setCell ⟨w1.heap.size + 1, 7, none⟩ (.bool false)).setCell ⟨w1.heap.size + 1, 5, none⟩ (.int .i64 3))).frozen? ⟨w.heap.size, 8, none⟩ = false := d9.free 8
  have D9 := hide d9; have B9 := hide b9
  clear d6 x6 e6 bb6 d8 x8 e8 b8 d9 x9 e9 b9
  go_wp2_with fail
  have d9 := D9.out; have b9 := B9.out; have hle := HL.out
  generalize ((w7.setCell ⟨w1.heap.size + 1, 7, none⟩ (.bool false)).setCell ⟨w1.heap.size + 1, 5, none⟩ (.int .i64 3)) = W9 at *
  have r5 := (Cells.put9 d9 (.int .u8 1) (.int .u32 h5) (.int .u16 0) (.int .u32 h6) (.int .u16 0) (.int .i64 3) (.int .u8 0) (.bool false) (.int .u8 h3))
  have b5 := (Below.put9 b9 (b := w.heap.size) (by first | exact Nat.le_refl _ | omega) (.int .u8 1) (.int .u32 h5) (.int .u16 0) (.int .u32 h6) (.int .u16 0) (.int .i64 3) (.int .u8 0) (.bool false) (.int .u8 h3))
  have HR5 := hide r5; have HB5 := hide b5
  clear r5 b5 d9
  generalize (((((((((W9.setCell ⟨w.heap.size, 0, none⟩ (.int .u8 1)).setCell ⟨w.heap.size, 1, none⟩ (.int .u32 h5)).setCell ⟨w.heap.size, 2, none⟩ (.int .u16 0)).setCell ⟨w.heap.size, 3, none⟩ (.int .u32 h6)).setCell ⟨w.heap.size, 4, none⟩ (.int .u16 0)).setCell ⟨w.heap.size, 5, none⟩ (.int .i64 3)).setCell ⟨w.heap.size, 6, none⟩ (.int .u8 0)).setCell ⟨w.heap.size, 7, none⟩ (.bool false)).setCell ⟨w.heap.size, 8, none⟩ (.int .u8 h3)) = W5 at *
  have r5 := HR5.out; have b5 := HB5.out
  clear HR5 HB5
  have xr5_0 : W5.cell? ⟨w.heap.size, 0, none⟩ = some (.int .u8 1) := r5.at_ 0
  have xr5_1 : W5.cell? ⟨w.heap.size, 1, none⟩ = some (.int .u32 h5) := r5.at_ 1
  have xr5_2 : W5.cell? ⟨w.heap.size, 2, none⟩ = some (.int .u16 0) := r5.at_ 2
  have xr5_3 : W5.cell? ⟨w.heap.size, 3, none⟩ = some (.int .u32 h6) := r5.at_ 3
  have xr5_4 : W5.cell? ⟨w.heap.size, 4, none⟩ = some (.int .u16 0) := r5.at_ 4
  have xr5_5 : W5.cell? ⟨w.heap.size, 5, none⟩ = some (.int .i64 3) := r5.at_ 5
  have xr5_6 : W5.cell? ⟨w.heap.size, 6, none⟩ = some (.int .u8 0) := r5.at_ 6
  have xr5_7 : W5.cell? ⟨w.heap.size, 7, none⟩ = some (.bool false) := r5.at_ 7
  have xr5_8 : W5.cell? ⟨w.heap.size, 8, none⟩ = some (.int .u8 h3) := r5.at_ 8
  (try simp only [Exit.inBlock, Exit.then]); refine bodyPost_ret (by simp [results, Tryz.results17, go_sem, *]; try rfl) rfl ?_
  first | exact ⟨rfl, b5⟩ | exact ⟨rfl, b5.drew⟩

set_option maxRecDepth 100000 in
set_option maxHeartbeats 4000000 in
theorem o_Of_msg_ask (e : Bool) (s l : ByteArray) (w : World) (h0 h1 h3 h5 h6 : Int) (h2 : Bool) (h7 : ByteArray) (m0 m1 m2 id : Int) (m3 m4 : ByteArray)
    (c1 : ∀ W, Calls Tryz.prog 18 #[.string s] W (Ret (.tuple #[.agg #[.int .u8 h0, .int .u16 h1, .bool h2, .int .u8 h3, .int .u8 1, .int .u32 h5, .int .u32 h6, .string h7], .string l, .int .i64 0]) W))
    (c2 : ∀ W, Calls Tryz.prog 45 #[.string l] W (Ret (.tuple #[.agg #[.int .u8 m0, .int .u8 m1, .int .u16 m2, .string m3, .string m4], .bool true]) W))
    (c3 : ∀ W, Calls Tryz.prog 46 #[.agg #[.int .u8 m0, .int .u8 m1, .int .u16 m2, .string m3, .string m4]] W (Ret (.tuple #[.bool true, .bool true]) W))
    (c4 : ∀ W, Calls Tryz.prog 47 #[.agg #[.int .u8 m0, .int .u8 m1, .int .u16 m2, .string m3, .string m4]] W (Ret (.bool e) W))
    (c5 : ∀ W, Calls Tryz.prog 48 #[.agg #[.int .u8 m0, .int .u8 m1, .int .u16 m2, .string m3, .string m4]] W (Ret (.int .u16 id) W)) :
    Calls Tryz.prog 17 #[.string s] w (Ret (.tuple #[.agg #[.int .u8 1, .int .u32 h5, .int .u16 id, .int .u32 h6, .int .u16 0, .int .i64 2, .int .u8 0, .bool true, .int .u8 h3], .int .i64 0]) w) := by
  have C1 := hide c1; have C2 := hide c2; have C3 := hide c3; have C4 := hide c4; have C5 := hide c5
  clear c1 c2 c3 c4 c5
  go_enter Tryz.func17, Tryz.ntmps17
  have d0 := Cells.new w #[.int .u8 0, .int .u32 0, .int .u16 0, .int .u32 0, .int .u16 0, .int .i64 0, .int .u8 0, .bool false, .int .u8 0] 54
  go_wp2_with fail
  (with_reducible refine (C1.out _).mono ?_)
  rintro e w1 ⟨rfl, b1⟩
  have d1 := Cells.below b1 d0
  have e1 := Cells.new w1 #[.int .u8 h0, .int .u16 h1, .bool h2, .int .u8 h3, .int .u8 1, .int .u32 h5, .int .u32 h6, .string h7] 57
  have xe1_0 : (w1.alloc (.cells #[.int .u8 h0, .int .u16 h1, .bool h2, .int .u8 h3, .int .u8 1, .int .u32 h5, .int .u32 h6, .string h7] 57)).cell? ⟨w1.heap.size, 0, none⟩ = some (.int .u8 h0) := e1.at_ 0
  have xe1_1 : (w1.alloc (.cells #[.int .u8 h0, .int .u16 h1, .bool h2, .int .u8 h3, .int .u8 1, .int .u32 h5, .int .u32 h6, .string h7] 57)).cell? ⟨w1.heap.size, 1, none⟩ = some (.int .u16 h1) := e1.at_ 1
  have xe1_2 : (w1.alloc (.cells #[.int .u8 h0, .int .u16 h1, .bool h2, .int .u8 h3, .int .u8 1, .int .u32 h5, .int .u32 h6, .string h7] 57)).cell? ⟨w1.heap.size, 2, none⟩ = some (.bool h2) := e1.at_ 2
  have xe1_3 : (w1.alloc (.cells #[.int .u8 h0, .int .u16 h1, .bool h2, .int .u8 h3, .int .u8 1, .int .u32 h5, .int .u32 h6, .string h7] 57)).cell? ⟨w1.heap.size, 3, none⟩ = some (.int .u8 h3) := e1.at_ 3
  have xe1_4 : (w1.alloc (.cells #[.int .u8 h0, .int .u16 h1, .bool h2, .int .u8 h3, .int .u8 1, .int .u32 h5, .int .u32 h6, .string h7] 57)).cell? ⟨w1.heap.size, 4, none⟩ = some (.int .u8 1) := e1.at_ 4
  have xe1_5 : (w1.alloc (.cells #[.int .u8 h0, .int .u16 h1, .bool h2, .int .u8 h3, .int .u8 1, .int .u32 h5, .int .u32 h6, .string h7] 57)).cell? ⟨w1.heap.size, 5, none⟩ = some (.int .u32 h5) := e1.at_ 5
  have xe1_6 : (w1.alloc (.cells #[.int .u8 h0, .int .u16 h1, .bool h2, .int .u8 h3, .int .u8 1, .int .u32 h5, .int .u32 h6, .string h7] 57)).cell? ⟨w1.heap.size, 6, none⟩ = some (.int .u32 h6) := e1.at_ 6
  have xe1_7 : (w1.alloc (.cells #[.int .u8 h0, .int .u16 h1, .bool h2, .int .u8 h3, .int .u8 1, .int .u32 h5, .int .u32 h6, .string h7] 57)).cell? ⟨w1.heap.size, 7, none⟩ = some (.string h7) := e1.at_ 7
  have d3 := Cells.alloc (Cells.alloc d1 (.cells #[.int .u8 h0, .int .u16 h1, .bool h2, .int .u8 h3, .int .u8 1, .int .u32 h5, .int .u32 h6, .string h7] 57)) (.cells #[.int .u8 1, .int .u32 h5, .int .u16 0, .int .u32 h6, .int .u16 0, .int .i64 2, .int .u8 0, .bool false, .int .u8 h3] 54)
  have e3 := Cells.alloc e1 (.cells #[.int .u8 1, .int .u32 h5, .int .u16 0, .int .u32 h6, .int .u16 0, .int .i64 2, .int .u8 0, .bool false, .int .u8 h3] 54)
  have xe3_4 : (((w1.alloc (.cells #[.int .u8 h0, .int .u16 h1, .bool h2, .int .u8 h3, .int .u8 1, .int .u32 h5, .int .u32 h6, .string h7] 57)).alloc (.cells #[.int .u8 1, .int .u32 h5, .int .u16 0, .int .u32 h6, .int .u16 0, .int .i64 2, .int .u8 0, .bool false, .int .u8 h3] 54))).cell? ⟨w1.heap.size, 4, none⟩ = some (.int .u8 1) := e3.at_ 4
  have x3 : Cells ((w1.alloc (.cells #[.int .u8 h0, .int .u16 h1, .bool h2, .int .u8 h3, .int .u8 1, .int .u32 h5, .int .u32 h6, .string h7] 57)).alloc (.cells #[.int .u8 1, .int .u32 h5, .int .u16 0, .int .u32 h6, .int .u16 0, .int .i64 2, .int .u8 0, .bool false, .int .u8 h3] 54)) (w1.heap.size + 1) #[.int .u8 1, .int .u32 h5, .int .u16 0, .int .u32 h6, .int .u16 0, .int .i64 2, .int .u8 0, .bool false, .int .u8 h3] 54 := by
    have := Cells.new (w1.alloc (.cells #[.int .u8 h0, .int .u16 h1, .bool h2, .int .u8 h3, .int .u8 1, .int .u32 h5, .int .u32 h6, .string h7] 57)) #[.int .u8 1, .int .u32 h5, .int .u16 0, .int .u32 h6, .int .u16 0, .int .i64 2, .int .u8 0, .bool false, .int .u8 h3] 54
    rw [show (w1.alloc (.cells #[.int .u8 h0, .int .u16 h1, .bool h2, .int .u8 h3, .int .u8 1, .int .u32 h5, .int .u32 h6, .string h7] 57)).heap.size = w1.heap.size + 1 from by simp] at this
    exact this
  have b3 : Below w.heap.size w ((w1.alloc (.cells #[.int .u8 h0, .int .u16 h1, .bool h2, .int .u8 h3, .int .u8 1, .int .u32 h5, .int .u32 h6, .string h7] 57)).alloc (.cells #[.int .u8 1, .int .u32 h5, .int .u16 0, .int .u32 h6, .int .u16 0, .int .i64 2, .int .u8 0, .bool false, .int .u8 h3] 54)) := bstep (bstep (bstep (fresh_below _ _) b1) (fresh_below _ _)) (fresh_below _ _)
  have hlt : w.heap.size ≠ w1.heap.size + 1 := by have := d1.lt; omega
  have hle : w.heap.size ≤ w1.heap.size + 1 := by have := d1.lt; omega
  have D3 := hide d3; have X3 := hide x3; have B3 := hide b3; have HN := hide hlt; have HL := hide hle
  clear d0 d1 e1 d3 e3 x3 b3 b1 hlt hle
  go_wp2_with fail
  (with_reducible refine (C2.out _).mono ?_)
  rintro e w4 ⟨rfl, b4⟩
  have d4 := Cells.alloc (Cells.below b4 D3.out) (.cells #[.int .u8 m0, .int .u8 m1, .int .u16 m2, .string m3, .string m4] 100)
  have x4 := Cells.alloc (Cells.below b4 X3.out) (.cells #[.int .u8 m0, .int .u8 m1, .int .u16 m2, .string m3, .string m4] 100)
  have e4 := Cells.new w4 #[.int .u8 m0, .int .u8 m1, .int .u16 m2, .string m3, .string m4] 100
  have b5 : Below w.heap.size w (w4.alloc (.cells #[.int .u8 m0, .int .u8 m1, .int .u16 m2, .string m3, .string m4] 100)) := bstep (bstep B3.out b4) (fresh_below _ _)
  have hgw : w4.heap.size ≠ w.heap.size := by have := (Cells.below b4 D3.out).lt; omega
  have hgx : w4.heap.size ≠ w1.heap.size + 1 := by have := (Cells.below b4 X3.out).lt; omega
  have HGW := hide hgw; have HGX := hide hgx
  clear D3 X3 B3 b4 C1 C2 hgw hgx
  have xe4_0 : ((w4.alloc (.cells #[.int .u8 m0, .int .u8 m1, .int .u16 m2, .string m3, .string m4] 100))).cell? ⟨w4.heap.size, 0, none⟩ = some (.int .u8 m0) := e4.at_ 0
  have xe4_1 : ((w4.alloc (.cells #[.int .u8 m0, .int .u8 m1, .int .u16 m2, .string m3, .string m4] 100))).cell? ⟨w4.heap.size, 1, none⟩ = some (.int .u8 m1) := e4.at_ 1
  have xe4_2 : ((w4.alloc (.cells #[.int .u8 m0, .int .u8 m1, .int .u16 m2, .string m3, .string m4] 100))).cell? ⟨w4.heap.size, 2, none⟩ = some (.int .u16 m2) := e4.at_ 2
  have xe4_3 : ((w4.alloc (.cells #[.int .u8 m0, .int .u8 m1, .int .u16 m2, .string m3, .string m4] 100))).cell? ⟨w4.heap.size, 3, none⟩ = some (.string m3) := e4.at_ 3
  have xe4_4 : ((w4.alloc (.cells #[.int .u8 m0, .int .u8 m1, .int .u16 m2, .string m3, .string m4] 100))).cell? ⟨w4.heap.size, 4, none⟩ = some (.string m4) := e4.at_ 4
  have E4 := hide e4; have X4 := hide x4; have D4 := hide d4; have B5 := hide b5
  clear d4 b5 x4 e4
  go_wp2_with fail
  (with_reducible refine (C3.out _).mono ?_)
  rintro e w6 ⟨rfl, b6⟩
  have d6 := Cells.below b6 D4.out
  have x6 := Cells.below b6 X4.out
  have e6 := Cells.below b6 E4.out
  have bb6 : Below w.heap.size w w6 := bstep B5.out b6
  clear E4 X4 D4 B5 b6
  have xx6_0 : w6.cell? ⟨(w1.heap.size + 1), 0, none⟩ = some (.int .u8 1) := x6.at_ 0
  have xx6_1 : w6.cell? ⟨(w1.heap.size + 1), 1, none⟩ = some (.int .u32 h5) := x6.at_ 1
  have xx6_2 : w6.cell? ⟨(w1.heap.size + 1), 2, none⟩ = some (.int .u16 0) := x6.at_ 2
  have xx6_3 : w6.cell? ⟨(w1.heap.size + 1), 3, none⟩ = some (.int .u32 h6) := x6.at_ 3
  have xx6_4 : w6.cell? ⟨(w1.heap.size + 1), 4, none⟩ = some (.int .u16 0) := x6.at_ 4
  have xx6_5 : w6.cell? ⟨(w1.heap.size + 1), 5, none⟩ = some (.int .i64 2) := x6.at_ 5
  have xx6_6 : w6.cell? ⟨(w1.heap.size + 1), 6, none⟩ = some (.int .u8 0) := x6.at_ 6
  have xx6_7 : w6.cell? ⟨(w1.heap.size + 1), 7, none⟩ = some (.bool false) := x6.at_ 7
  have xx6_8 : w6.cell? ⟨(w1.heap.size + 1), 8, none⟩ = some (.int .u8 h3) := x6.at_ 8
  have yx6_0 : w6.frozen? ⟨(w1.heap.size + 1), 0, none⟩ = false := x6.free 0
  have yx6_1 : w6.frozen? ⟨(w1.heap.size + 1), 1, none⟩ = false := x6.free 1
  have yx6_2 : w6.frozen? ⟨(w1.heap.size + 1), 2, none⟩ = false := x6.free 2
  have yx6_3 : w6.frozen? ⟨(w1.heap.size + 1), 3, none⟩ = false := x6.free 3
  have yx6_4 : w6.frozen? ⟨(w1.heap.size + 1), 4, none⟩ = false := x6.free 4
  have yx6_5 : w6.frozen? ⟨(w1.heap.size + 1), 5, none⟩ = false := x6.free 5
  have yx6_6 : w6.frozen? ⟨(w1.heap.size + 1), 6, none⟩ = false := x6.free 6
  have yx6_7 : w6.frozen? ⟨(w1.heap.size + 1), 7, none⟩ = false := x6.free 7
  have yx6_8 : w6.frozen? ⟨(w1.heap.size + 1), 8, none⟩ = false := x6.free 8
  have x8 : Cells (w6.setCell ⟨w1.heap.size + 1, 7, none⟩ (.bool true)) (w1.heap.size + 1) #[.int .u8 1, .int .u32 h5, .int .u16 0, .int .u32 h6, .int .u16 0, .int .i64 2, .int .u8 0, .bool true, .int .u8 h3] 54 := x6.set_ 7 (.bool true)
  have d8 := d6.other HN.out 7 (.bool true)
  have e8 := e6.other HGX.out 7 (.bool true)
  have b8 : Below w.heap.size w (w6.setCell ⟨w1.heap.size + 1, 7, none⟩ (.bool true)) := Below.setCell bb6 (by have := HL.out; dsimp only; omega) _
  have xe8_0 : ((w6.setCell ⟨w1.heap.size + 1, 7, none⟩ (.bool true))).cell? ⟨w4.heap.size, 0, none⟩ = some (.int .u8 m0) := e8.at_ 0
  have xe8_1 : ((w6.setCell ⟨w1.heap.size + 1, 7, none⟩ (.bool true))).cell? ⟨w4.heap.size, 1, none⟩ = some (.int .u8 m1) := e8.at_ 1
  have xe8_2 : ((w6.setCell ⟨w1.heap.size + 1, 7, none⟩ (.bool true))).cell? ⟨w4.heap.size, 2, none⟩ = some (.int .u16 m2) := e8.at_ 2
  have xe8_3 : ((w6.setCell ⟨w1.heap.size + 1, 7, none⟩ (.bool true))).cell? ⟨w4.heap.size, 3, none⟩ = some (.string m3) := e8.at_ 3
  have xe8_4 : ((w6.setCell ⟨w1.heap.size + 1, 7, none⟩ (.bool true))).cell? ⟨w4.heap.size, 4, none⟩ = some (.string m4) := e8.at_ 4
  have E8 := hide e8; have X8 := hide x8; have D8 := hide d8; have B8 := hide b8
  clear d6 x6 e6 bb6 d8 x8 e8 b8
  go_wp2_with fail
  (with_reducible refine (C5.out _).mono ?_)
  rintro e w9 ⟨rfl, b9⟩
  have d9 := Cells.below b9 D8.out
  have x9 := Cells.below b9 X8.out
  have e9 := Cells.below b9 E8.out
  have bb9 : Below w.heap.size w w9 := bstep B8.out b9
  clear E8 X8 D8 B8 b9
  have xx9_0 : w9.cell? ⟨(w1.heap.size + 1), 0, none⟩ = some (.int .u8 1) := x9.at_ 0
  have xx9_1 : w9.cell? ⟨(w1.heap.size + 1), 1, none⟩ = some (.int .u32 h5) := x9.at_ 1
  have xx9_2 : w9.cell? ⟨(w1.heap.size + 1), 2, none⟩ = some (.int .u16 0) := x9.at_ 2
  have xx9_3 : w9.cell? ⟨(w1.heap.size + 1), 3, none⟩ = some (.int .u32 h6) := x9.at_ 3
  have xx9_4 : w9.cell? ⟨(w1.heap.size + 1), 4, none⟩ = some (.int .u16 0) := x9.at_ 4
  have xx9_5 : w9.cell? ⟨(w1.heap.size + 1), 5, none⟩ = some (.int .i64 2) := x9.at_ 5
  have xx9_6 : w9.cell? ⟨(w1.heap.size + 1), 6, none⟩ = some (.int .u8 0) := x9.at_ 6
  have xx9_7 : w9.cell? ⟨(w1.heap.size + 1), 7, none⟩ = some (.bool true) := x9.at_ 7
  have xx9_8 : w9.cell? ⟨(w1.heap.size + 1), 8, none⟩ = some (.int .u8 h3) := x9.at_ 8
  have yx9_0 : w9.frozen? ⟨(w1.heap.size + 1), 0, none⟩ = false := x9.free 0
  have yx9_1 : w9.frozen? ⟨(w1.heap.size + 1), 1, none⟩ = false := x9.free 1
  have yx9_2 : w9.frozen? ⟨(w1.heap.size + 1), 2, none⟩ = false := x9.free 2
  have yx9_3 : w9.frozen? ⟨(w1.heap.size + 1), 3, none⟩ = false := x9.free 3
  have yx9_4 : w9.frozen? ⟨(w1.heap.size + 1), 4, none⟩ = false := x9.free 4
  have yx9_5 : w9.frozen? ⟨(w1.heap.size + 1), 5, none⟩ = false := x9.free 5
  have yx9_6 : w9.frozen? ⟨(w1.heap.size + 1), 6, none⟩ = false := x9.free 6
  have yx9_7 : w9.frozen? ⟨(w1.heap.size + 1), 7, none⟩ = false := x9.free 7
  have yx9_8 : w9.frozen? ⟨(w1.heap.size + 1), 8, none⟩ = false := x9.free 8
  have x10 : Cells (w9.setCell ⟨w1.heap.size + 1, 2, none⟩ (.int .u16 id)) (w1.heap.size + 1) #[.int .u8 1, .int .u32 h5, .int .u16 id, .int .u32 h6, .int .u16 0, .int .i64 2, .int .u8 0, .bool true, .int .u8 h3] 54 := x9.set_ 2 (.int .u16 id)
  have d10 := d9.other HN.out 2 (.int .u16 id)
  have e10 := e9.other HGX.out 2 (.int .u16 id)
  have b10 : Below w.heap.size w (w9.setCell ⟨w1.heap.size + 1, 2, none⟩ (.int .u16 id)) := Below.setCell bb9 (by have := HL.out; dsimp only; omega) _
  have xx10_0 : ((w9.setCell ⟨w1.heap.size + 1, 2, none⟩ (.int .u16 id))).cell? ⟨(w1.heap.size + 1), 0, none⟩ = some (.int .u8 1) := x10.at_ 0
  have xx10_1 : ((w9.setCell ⟨w1.heap.size + 1, 2, none⟩ (.int .u16 id))).cell? ⟨(w1.heap.size + 1), 1, none⟩ = some (.int .u32 h5) := x10.at_ 1
  have xx10_2 : ((w9.setCell ⟨w1.heap.size + 1, 2, none⟩ (.int .u16 id))).cell? ⟨(w1.heap.size + 1), 2, none⟩ = some (.int .u16 id) := x10.at_ 2
  have xx10_3 : ((w9.setCell ⟨w1.heap.size + 1, 2, none⟩ (.int .u16 id))).cell? ⟨(w1.heap.size + 1), 3, none⟩ = some (.int .u32 h6) := x10.at_ 3
  have xx10_4 : ((w9.setCell ⟨w1.heap.size + 1, 2, none⟩ (.int .u16 id))).cell? ⟨(w1.heap.size + 1), 4, none⟩ = some (.int .u16 0) := x10.at_ 4
  have xx10_5 : ((w9.setCell ⟨w1.heap.size + 1, 2, none⟩ (.int .u16 id))).cell? ⟨(w1.heap.size + 1), 5, none⟩ = some (.int .i64 2) := x10.at_ 5
  have xx10_6 : ((w9.setCell ⟨w1.heap.size + 1, 2, none⟩ (.int .u16 id))).cell? ⟨(w1.heap.size + 1), 6, none⟩ = some (.int .u8 0) := x10.at_ 6
  have xx10_7 : ((w9.setCell ⟨w1.heap.size + 1, 2, none⟩ (.int .u16 id))).cell? ⟨(w1.heap.size + 1), 7, none⟩ = some (.bool true) := x10.at_ 7
  have xx10_8 : ((w9.setCell ⟨w1.heap.size + 1, 2, none⟩ (.int .u16 id))).cell? ⟨(w1.heap.size + 1), 8, none⟩ = some (.int .u8 h3) := x10.at_ 8
  have xd10_0 : ((w9.setCell ⟨w1.heap.size + 1, 2, none⟩ (.int .u16 id))).cell? ⟨w.heap.size, 0, none⟩ = some (.int .u8 0) := d10.at_ 0
  have xd10_1 : ((w9.setCell ⟨w1.heap.size + 1, 2, none⟩ (.int .u16 id))).cell? ⟨w.heap.size, 1, none⟩ = some (.int .u32 0) := d10.at_ 1
  have xd10_2 : ((w9.setCell ⟨w1.heap.size + 1, 2, none⟩ (.int .u16 id))).cell? ⟨w.heap.size, 2, none⟩ = some (.int .u16 0) := d10.at_ 2
  have xd10_3 : ((w9.setCell ⟨w1.heap.size + 1, 2, none⟩ (.int .u16 id))).cell? ⟨w.heap.size, 3, none⟩ = some (.int .u32 0) := d10.at_ 3
  have xd10_4 : ((w9.setCell ⟨w1.heap.size + 1, 2, none⟩ (.int .u16 id))).cell? ⟨w.heap.size, 4, none⟩ = some (.int .u16 0) := d10.at_ 4
  have xd10_5 : ((w9.setCell ⟨w1.heap.size + 1, 2, none⟩ (.int .u16 id))).cell? ⟨w.heap.size, 5, none⟩ = some (.int .i64 0) := d10.at_ 5
  have xd10_6 : ((w9.setCell ⟨w1.heap.size + 1, 2, none⟩ (.int .u16 id))).cell? ⟨w.heap.size, 6, none⟩ = some (.int .u8 0) := d10.at_ 6
  have xd10_7 : ((w9.setCell ⟨w1.heap.size + 1, 2, none⟩ (.int .u16 id))).cell? ⟨w.heap.size, 7, none⟩ = some (.bool false) := d10.at_ 7
  have xd10_8 : ((w9.setCell ⟨w1.heap.size + 1, 2, none⟩ (.int .u16 id))).cell? ⟨w.heap.size, 8, none⟩ = some (.int .u8 0) := d10.at_ 8
  have yd10_0 : ((w9.setCell ⟨w1.heap.size + 1, 2, none⟩ (.int .u16 id))).frozen? ⟨w.heap.size, 0, none⟩ = false := d10.free 0
  have yd10_1 : ((w9.setCell ⟨w1.heap.size + 1, 2, none⟩ (.int .u16 id))).frozen? ⟨w.heap.size, 1, none⟩ = false := d10.free 1
  have yd10_2 : ((w9.setCell ⟨w1.heap.size + 1, 2, none⟩ (.int .u16 id))).frozen? ⟨w.heap.size, 2, none⟩ = false := d10.free 2
  have yd10_3 : ((w9.setCell ⟨w1.heap.size + 1, 2, none⟩ (.int .u16 id))).frozen? ⟨w.heap.size, 3, none⟩ = false := d10.free 3
  have yd10_4 : ((w9.setCell ⟨w1.heap.size + 1, 2, none⟩ (.int .u16 id))).frozen? ⟨w.heap.size, 4, none⟩ = false := d10.free 4
  have yd10_5 : ((w9.setCell ⟨w1.heap.size + 1, 2, none⟩ (.int .u16 id))).frozen? ⟨w.heap.size, 5, none⟩ = false := d10.free 5
  have yd10_6 : ((w9.setCell ⟨w1.heap.size + 1, 2, none⟩ (.int .u16 id))).frozen? ⟨w.heap.size, 6, none⟩ = false := d10.free 6
  have yd10_7 : ((w9.setCell ⟨w1.heap.size + 1, 2, none⟩ (.int .u16 id))).frozen? ⟨w.heap.size, 7, none⟩ = false := d10.free 7
  have yd10_8 : ((w9.setCell ⟨w1.heap.size + 1, 2, none⟩ (.int .u16 id))).frozen? ⟨w.heap.size, 8, none⟩ = false := d10.free 8
  have D10 := hide d10; have B10 := hide b10
  clear d9 x9 e9 bb9 d10 x10 e10 b10
  go_wp2_with fail
  have d10 := D10.out; have b10 := B10.out; have hle := HL.out
  generalize (w9.setCell ⟨w1.heap.size + 1, 2, none⟩ (.int .u16 id)) = W10 at *
  have r5 := (Cells.put9 d10 (.int .u8 1) (.int .u32 h5) (.int .u16 id) (.int .u32 h6) (.int .u16 0) (.int .i64 2) (.int .u8 0) (.bool true) (.int .u8 h3))
  have b5 := (Below.put9 b10 (b := w.heap.size) (by first | exact Nat.le_refl _ | omega) (.int .u8 1) (.int .u32 h5) (.int .u16 id) (.int .u32 h6) (.int .u16 0) (.int .i64 2) (.int .u8 0) (.bool true) (.int .u8 h3))
  have HR5 := hide r5; have HB5 := hide b5
  clear r5 b5 d10
  generalize (((((((((W10.setCell ⟨w.heap.size, 0, none⟩ (.int .u8 1)).setCell ⟨w.heap.size, 1, none⟩ (.int .u32 h5)).setCell ⟨w.heap.size, 2, none⟩ (.int .u16 id)).setCell ⟨w.heap.size, 3, none⟩ (.int .u32 h6)).setCell ⟨w.heap.size, 4, none⟩ (.int .u16 0)).setCell ⟨w.heap.size, 5, none⟩ (.int .i64 2)).setCell ⟨w.heap.size, 6, none⟩ (.int .u8 0)).setCell ⟨w.heap.size, 7, none⟩ (.bool true)).setCell ⟨w.heap.size, 8, none⟩ (.int .u8 h3)) = W5 at *
  have r5 := HR5.out; have b5 := HB5.out
  clear HR5 HB5
  have xr5_0 : W5.cell? ⟨w.heap.size, 0, none⟩ = some (.int .u8 1) := r5.at_ 0
  have xr5_1 : W5.cell? ⟨w.heap.size, 1, none⟩ = some (.int .u32 h5) := r5.at_ 1
  have xr5_2 : W5.cell? ⟨w.heap.size, 2, none⟩ = some (.int .u16 id) := r5.at_ 2
  have xr5_3 : W5.cell? ⟨w.heap.size, 3, none⟩ = some (.int .u32 h6) := r5.at_ 3
  have xr5_4 : W5.cell? ⟨w.heap.size, 4, none⟩ = some (.int .u16 0) := r5.at_ 4
  have xr5_5 : W5.cell? ⟨w.heap.size, 5, none⟩ = some (.int .i64 2) := r5.at_ 5
  have xr5_6 : W5.cell? ⟨w.heap.size, 6, none⟩ = some (.int .u8 0) := r5.at_ 6
  have xr5_7 : W5.cell? ⟨w.heap.size, 7, none⟩ = some (.bool true) := r5.at_ 7
  have xr5_8 : W5.cell? ⟨w.heap.size, 8, none⟩ = some (.int .u8 h3) := r5.at_ 8
  (try simp only [Exit.inBlock, Exit.then]); refine bodyPost_ret (by simp [results, Tryz.results17, go_sem, *]; try rfl) rfl ?_
  first | exact ⟨rfl, b5⟩ | exact ⟨rfl, b5.drew⟩

set_option maxRecDepth 100000 in
set_option maxHeartbeats 4000000 in
theorem o_Of_msg_told (e : Bool) (s l : ByteArray) (w : World) (h0 h1 h3 h5 h6 : Int) (h2 : Bool) (h7 : ByteArray) (m0 m1 m2 id : Int) (m3 m4 : ByteArray)
    (c1 : ∀ W, Calls Tryz.prog 18 #[.string s] W (Ret (.tuple #[.agg #[.int .u8 h0, .int .u16 h1, .bool h2, .int .u8 h3, .int .u8 1, .int .u32 h5, .int .u32 h6, .string h7], .string l, .int .i64 0]) W))
    (c2 : ∀ W, Calls Tryz.prog 45 #[.string l] W (Ret (.tuple #[.agg #[.int .u8 m0, .int .u8 m1, .int .u16 m2, .string m3, .string m4], .bool true]) W))
    (c3 : ∀ W, Calls Tryz.prog 46 #[.agg #[.int .u8 m0, .int .u8 m1, .int .u16 m2, .string m3, .string m4]] W (Ret (.tuple #[.bool false, .bool true]) W))
    (c4 : ∀ W, Calls Tryz.prog 47 #[.agg #[.int .u8 m0, .int .u8 m1, .int .u16 m2, .string m3, .string m4]] W (Ret (.bool e) W))
    (c5 : ∀ W, Calls Tryz.prog 48 #[.agg #[.int .u8 m0, .int .u8 m1, .int .u16 m2, .string m3, .string m4]] W (Ret (.int .u16 id) W)) :
    Calls Tryz.prog 17 #[.string s] w (Ret (.tuple #[.agg #[.int .u8 1, .int .u32 h5, .int .u16 0, .int .u32 h6, .int .u16 id, .int .i64 2, .int .u8 0, .bool false, .int .u8 h3], .int .i64 0]) w) := by
  have C1 := hide c1; have C2 := hide c2; have C3 := hide c3; have C4 := hide c4; have C5 := hide c5
  clear c1 c2 c3 c4 c5
  go_enter Tryz.func17, Tryz.ntmps17
  have d0 := Cells.new w #[.int .u8 0, .int .u32 0, .int .u16 0, .int .u32 0, .int .u16 0, .int .i64 0, .int .u8 0, .bool false, .int .u8 0] 54
  go_wp2_with fail
  (with_reducible refine (C1.out _).mono ?_)
  rintro e w1 ⟨rfl, b1⟩
  have d1 := Cells.below b1 d0
  have e1 := Cells.new w1 #[.int .u8 h0, .int .u16 h1, .bool h2, .int .u8 h3, .int .u8 1, .int .u32 h5, .int .u32 h6, .string h7] 57
  have xe1_0 : (w1.alloc (.cells #[.int .u8 h0, .int .u16 h1, .bool h2, .int .u8 h3, .int .u8 1, .int .u32 h5, .int .u32 h6, .string h7] 57)).cell? ⟨w1.heap.size, 0, none⟩ = some (.int .u8 h0) := e1.at_ 0
  have xe1_1 : (w1.alloc (.cells #[.int .u8 h0, .int .u16 h1, .bool h2, .int .u8 h3, .int .u8 1, .int .u32 h5, .int .u32 h6, .string h7] 57)).cell? ⟨w1.heap.size, 1, none⟩ = some (.int .u16 h1) := e1.at_ 1
  have xe1_2 : (w1.alloc (.cells #[.int .u8 h0, .int .u16 h1, .bool h2, .int .u8 h3, .int .u8 1, .int .u32 h5, .int .u32 h6, .string h7] 57)).cell? ⟨w1.heap.size, 2, none⟩ = some (.bool h2) := e1.at_ 2
  have xe1_3 : (w1.alloc (.cells #[.int .u8 h0, .int .u16 h1, .bool h2, .int .u8 h3, .int .u8 1, .int .u32 h5, .int .u32 h6, .string h7] 57)).cell? ⟨w1.heap.size, 3, none⟩ = some (.int .u8 h3) := e1.at_ 3
  have xe1_4 : (w1.alloc (.cells #[.int .u8 h0, .int .u16 h1, .bool h2, .int .u8 h3, .int .u8 1, .int .u32 h5, .int .u32 h6, .string h7] 57)).cell? ⟨w1.heap.size, 4, none⟩ = some (.int .u8 1) := e1.at_ 4
  have xe1_5 : (w1.alloc (.cells #[.int .u8 h0, .int .u16 h1, .bool h2, .int .u8 h3, .int .u8 1, .int .u32 h5, .int .u32 h6, .string h7] 57)).cell? ⟨w1.heap.size, 5, none⟩ = some (.int .u32 h5) := e1.at_ 5
  have xe1_6 : (w1.alloc (.cells #[.int .u8 h0, .int .u16 h1, .bool h2, .int .u8 h3, .int .u8 1, .int .u32 h5, .int .u32 h6, .string h7] 57)).cell? ⟨w1.heap.size, 6, none⟩ = some (.int .u32 h6) := e1.at_ 6
  have xe1_7 : (w1.alloc (.cells #[.int .u8 h0, .int .u16 h1, .bool h2, .int .u8 h3, .int .u8 1, .int .u32 h5, .int .u32 h6, .string h7] 57)).cell? ⟨w1.heap.size, 7, none⟩ = some (.string h7) := e1.at_ 7
  have d3 := Cells.alloc (Cells.alloc d1 (.cells #[.int .u8 h0, .int .u16 h1, .bool h2, .int .u8 h3, .int .u8 1, .int .u32 h5, .int .u32 h6, .string h7] 57)) (.cells #[.int .u8 1, .int .u32 h5, .int .u16 0, .int .u32 h6, .int .u16 0, .int .i64 2, .int .u8 0, .bool false, .int .u8 h3] 54)
  have e3 := Cells.alloc e1 (.cells #[.int .u8 1, .int .u32 h5, .int .u16 0, .int .u32 h6, .int .u16 0, .int .i64 2, .int .u8 0, .bool false, .int .u8 h3] 54)
  have xe3_4 : (((w1.alloc (.cells #[.int .u8 h0, .int .u16 h1, .bool h2, .int .u8 h3, .int .u8 1, .int .u32 h5, .int .u32 h6, .string h7] 57)).alloc (.cells #[.int .u8 1, .int .u32 h5, .int .u16 0, .int .u32 h6, .int .u16 0, .int .i64 2, .int .u8 0, .bool false, .int .u8 h3] 54))).cell? ⟨w1.heap.size, 4, none⟩ = some (.int .u8 1) := e3.at_ 4
  have x3 : Cells ((w1.alloc (.cells #[.int .u8 h0, .int .u16 h1, .bool h2, .int .u8 h3, .int .u8 1, .int .u32 h5, .int .u32 h6, .string h7] 57)).alloc (.cells #[.int .u8 1, .int .u32 h5, .int .u16 0, .int .u32 h6, .int .u16 0, .int .i64 2, .int .u8 0, .bool false, .int .u8 h3] 54)) (w1.heap.size + 1) #[.int .u8 1, .int .u32 h5, .int .u16 0, .int .u32 h6, .int .u16 0, .int .i64 2, .int .u8 0, .bool false, .int .u8 h3] 54 := by
    have := Cells.new (w1.alloc (.cells #[.int .u8 h0, .int .u16 h1, .bool h2, .int .u8 h3, .int .u8 1, .int .u32 h5, .int .u32 h6, .string h7] 57)) #[.int .u8 1, .int .u32 h5, .int .u16 0, .int .u32 h6, .int .u16 0, .int .i64 2, .int .u8 0, .bool false, .int .u8 h3] 54
    rw [show (w1.alloc (.cells #[.int .u8 h0, .int .u16 h1, .bool h2, .int .u8 h3, .int .u8 1, .int .u32 h5, .int .u32 h6, .string h7] 57)).heap.size = w1.heap.size + 1 from by simp] at this
    exact this
  have b3 : Below w.heap.size w ((w1.alloc (.cells #[.int .u8 h0, .int .u16 h1, .bool h2, .int .u8 h3, .int .u8 1, .int .u32 h5, .int .u32 h6, .string h7] 57)).alloc (.cells #[.int .u8 1, .int .u32 h5, .int .u16 0, .int .u32 h6, .int .u16 0, .int .i64 2, .int .u8 0, .bool false, .int .u8 h3] 54)) := bstep (bstep (bstep (fresh_below _ _) b1) (fresh_below _ _)) (fresh_below _ _)
  have hlt : w.heap.size ≠ w1.heap.size + 1 := by have := d1.lt; omega
  have hle : w.heap.size ≤ w1.heap.size + 1 := by have := d1.lt; omega
  have D3 := hide d3; have X3 := hide x3; have B3 := hide b3; have HN := hide hlt; have HL := hide hle
  clear d0 d1 e1 d3 e3 x3 b3 b1 hlt hle
  go_wp2_with fail
  (with_reducible refine (C2.out _).mono ?_)
  rintro e w4 ⟨rfl, b4⟩
  have d4 := Cells.alloc (Cells.below b4 D3.out) (.cells #[.int .u8 m0, .int .u8 m1, .int .u16 m2, .string m3, .string m4] 100)
  have x4 := Cells.alloc (Cells.below b4 X3.out) (.cells #[.int .u8 m0, .int .u8 m1, .int .u16 m2, .string m3, .string m4] 100)
  have e4 := Cells.new w4 #[.int .u8 m0, .int .u8 m1, .int .u16 m2, .string m3, .string m4] 100
  have b5 : Below w.heap.size w (w4.alloc (.cells #[.int .u8 m0, .int .u8 m1, .int .u16 m2, .string m3, .string m4] 100)) := bstep (bstep B3.out b4) (fresh_below _ _)
  have hgw : w4.heap.size ≠ w.heap.size := by have := (Cells.below b4 D3.out).lt; omega
  have hgx : w4.heap.size ≠ w1.heap.size + 1 := by have := (Cells.below b4 X3.out).lt; omega
  have HGW := hide hgw; have HGX := hide hgx
  clear D3 X3 B3 b4 C1 C2 hgw hgx
  have xe4_0 : ((w4.alloc (.cells #[.int .u8 m0, .int .u8 m1, .int .u16 m2, .string m3, .string m4] 100))).cell? ⟨w4.heap.size, 0, none⟩ = some (.int .u8 m0) := e4.at_ 0
  have xe4_1 : ((w4.alloc (.cells #[.int .u8 m0, .int .u8 m1, .int .u16 m2, .string m3, .string m4] 100))).cell? ⟨w4.heap.size, 1, none⟩ = some (.int .u8 m1) := e4.at_ 1
  have xe4_2 : ((w4.alloc (.cells #[.int .u8 m0, .int .u8 m1, .int .u16 m2, .string m3, .string m4] 100))).cell? ⟨w4.heap.size, 2, none⟩ = some (.int .u16 m2) := e4.at_ 2
  have xe4_3 : ((w4.alloc (.cells #[.int .u8 m0, .int .u8 m1, .int .u16 m2, .string m3, .string m4] 100))).cell? ⟨w4.heap.size, 3, none⟩ = some (.string m3) := e4.at_ 3
  have xe4_4 : ((w4.alloc (.cells #[.int .u8 m0, .int .u8 m1, .int .u16 m2, .string m3, .string m4] 100))).cell? ⟨w4.heap.size, 4, none⟩ = some (.string m4) := e4.at_ 4
  have E4 := hide e4; have X4 := hide x4; have D4 := hide d4; have B5 := hide b5
  clear d4 b5 x4 e4
  go_wp2_with fail
  (with_reducible refine (C3.out _).mono ?_)
  rintro e w6 ⟨rfl, b6⟩
  have d6 := Cells.below b6 D4.out
  have x6 := Cells.below b6 X4.out
  have e6 := Cells.below b6 E4.out
  have bb6 : Below w.heap.size w w6 := bstep B5.out b6
  clear E4 X4 D4 B5 b6
  have xx6_0 : w6.cell? ⟨(w1.heap.size + 1), 0, none⟩ = some (.int .u8 1) := x6.at_ 0
  have xx6_1 : w6.cell? ⟨(w1.heap.size + 1), 1, none⟩ = some (.int .u32 h5) := x6.at_ 1
  have xx6_2 : w6.cell? ⟨(w1.heap.size + 1), 2, none⟩ = some (.int .u16 0) := x6.at_ 2
  have xx6_3 : w6.cell? ⟨(w1.heap.size + 1), 3, none⟩ = some (.int .u32 h6) := x6.at_ 3
  have xx6_4 : w6.cell? ⟨(w1.heap.size + 1), 4, none⟩ = some (.int .u16 0) := x6.at_ 4
  have xx6_5 : w6.cell? ⟨(w1.heap.size + 1), 5, none⟩ = some (.int .i64 2) := x6.at_ 5
  have xx6_6 : w6.cell? ⟨(w1.heap.size + 1), 6, none⟩ = some (.int .u8 0) := x6.at_ 6
  have xx6_7 : w6.cell? ⟨(w1.heap.size + 1), 7, none⟩ = some (.bool false) := x6.at_ 7
  have xx6_8 : w6.cell? ⟨(w1.heap.size + 1), 8, none⟩ = some (.int .u8 h3) := x6.at_ 8
  have yx6_0 : w6.frozen? ⟨(w1.heap.size + 1), 0, none⟩ = false := x6.free 0
  have yx6_1 : w6.frozen? ⟨(w1.heap.size + 1), 1, none⟩ = false := x6.free 1
  have yx6_2 : w6.frozen? ⟨(w1.heap.size + 1), 2, none⟩ = false := x6.free 2
  have yx6_3 : w6.frozen? ⟨(w1.heap.size + 1), 3, none⟩ = false := x6.free 3
  have yx6_4 : w6.frozen? ⟨(w1.heap.size + 1), 4, none⟩ = false := x6.free 4
  have yx6_5 : w6.frozen? ⟨(w1.heap.size + 1), 5, none⟩ = false := x6.free 5
  have yx6_6 : w6.frozen? ⟨(w1.heap.size + 1), 6, none⟩ = false := x6.free 6
  have yx6_7 : w6.frozen? ⟨(w1.heap.size + 1), 7, none⟩ = false := x6.free 7
  have yx6_8 : w6.frozen? ⟨(w1.heap.size + 1), 8, none⟩ = false := x6.free 8
  have x8 : Cells (w6.setCell ⟨w1.heap.size + 1, 7, none⟩ (.bool false)) (w1.heap.size + 1) #[.int .u8 1, .int .u32 h5, .int .u16 0, .int .u32 h6, .int .u16 0, .int .i64 2, .int .u8 0, .bool false, .int .u8 h3] 54 := x6.set_ 7 (.bool false)
  have d8 := d6.other HN.out 7 (.bool false)
  have e8 := e6.other HGX.out 7 (.bool false)
  have b8 : Below w.heap.size w (w6.setCell ⟨w1.heap.size + 1, 7, none⟩ (.bool false)) := Below.setCell bb6 (by have := HL.out; dsimp only; omega) _
  have xe8_0 : ((w6.setCell ⟨w1.heap.size + 1, 7, none⟩ (.bool false))).cell? ⟨w4.heap.size, 0, none⟩ = some (.int .u8 m0) := e8.at_ 0
  have xe8_1 : ((w6.setCell ⟨w1.heap.size + 1, 7, none⟩ (.bool false))).cell? ⟨w4.heap.size, 1, none⟩ = some (.int .u8 m1) := e8.at_ 1
  have xe8_2 : ((w6.setCell ⟨w1.heap.size + 1, 7, none⟩ (.bool false))).cell? ⟨w4.heap.size, 2, none⟩ = some (.int .u16 m2) := e8.at_ 2
  have xe8_3 : ((w6.setCell ⟨w1.heap.size + 1, 7, none⟩ (.bool false))).cell? ⟨w4.heap.size, 3, none⟩ = some (.string m3) := e8.at_ 3
  have xe8_4 : ((w6.setCell ⟨w1.heap.size + 1, 7, none⟩ (.bool false))).cell? ⟨w4.heap.size, 4, none⟩ = some (.string m4) := e8.at_ 4
  have E8 := hide e8; have X8 := hide x8; have D8 := hide d8; have B8 := hide b8
  clear d6 x6 e6 bb6 d8 x8 e8 b8
  go_wp2_with fail
  (with_reducible refine (C5.out _).mono ?_)
  rintro e w9 ⟨rfl, b9⟩
  have d9 := Cells.below b9 D8.out
  have x9 := Cells.below b9 X8.out
  have e9 := Cells.below b9 E8.out
  have bb9 : Below w.heap.size w w9 := bstep B8.out b9
  clear E8 X8 D8 B8 b9
  have xx9_0 : w9.cell? ⟨(w1.heap.size + 1), 0, none⟩ = some (.int .u8 1) := x9.at_ 0
  have xx9_1 : w9.cell? ⟨(w1.heap.size + 1), 1, none⟩ = some (.int .u32 h5) := x9.at_ 1
  have xx9_2 : w9.cell? ⟨(w1.heap.size + 1), 2, none⟩ = some (.int .u16 0) := x9.at_ 2
  have xx9_3 : w9.cell? ⟨(w1.heap.size + 1), 3, none⟩ = some (.int .u32 h6) := x9.at_ 3
  have xx9_4 : w9.cell? ⟨(w1.heap.size + 1), 4, none⟩ = some (.int .u16 0) := x9.at_ 4
  have xx9_5 : w9.cell? ⟨(w1.heap.size + 1), 5, none⟩ = some (.int .i64 2) := x9.at_ 5
  have xx9_6 : w9.cell? ⟨(w1.heap.size + 1), 6, none⟩ = some (.int .u8 0) := x9.at_ 6
  have xx9_7 : w9.cell? ⟨(w1.heap.size + 1), 7, none⟩ = some (.bool false) := x9.at_ 7
  have xx9_8 : w9.cell? ⟨(w1.heap.size + 1), 8, none⟩ = some (.int .u8 h3) := x9.at_ 8
  have yx9_0 : w9.frozen? ⟨(w1.heap.size + 1), 0, none⟩ = false := x9.free 0
  have yx9_1 : w9.frozen? ⟨(w1.heap.size + 1), 1, none⟩ = false := x9.free 1
  have yx9_2 : w9.frozen? ⟨(w1.heap.size + 1), 2, none⟩ = false := x9.free 2
  have yx9_3 : w9.frozen? ⟨(w1.heap.size + 1), 3, none⟩ = false := x9.free 3
  have yx9_4 : w9.frozen? ⟨(w1.heap.size + 1), 4, none⟩ = false := x9.free 4
  have yx9_5 : w9.frozen? ⟨(w1.heap.size + 1), 5, none⟩ = false := x9.free 5
  have yx9_6 : w9.frozen? ⟨(w1.heap.size + 1), 6, none⟩ = false := x9.free 6
  have yx9_7 : w9.frozen? ⟨(w1.heap.size + 1), 7, none⟩ = false := x9.free 7
  have yx9_8 : w9.frozen? ⟨(w1.heap.size + 1), 8, none⟩ = false := x9.free 8
  have x10 : Cells (w9.setCell ⟨w1.heap.size + 1, 4, none⟩ (.int .u16 id)) (w1.heap.size + 1) #[.int .u8 1, .int .u32 h5, .int .u16 0, .int .u32 h6, .int .u16 id, .int .i64 2, .int .u8 0, .bool false, .int .u8 h3] 54 := x9.set_ 4 (.int .u16 id)
  have d10 := d9.other HN.out 4 (.int .u16 id)
  have e10 := e9.other HGX.out 4 (.int .u16 id)
  have b10 : Below w.heap.size w (w9.setCell ⟨w1.heap.size + 1, 4, none⟩ (.int .u16 id)) := Below.setCell bb9 (by have := HL.out; dsimp only; omega) _
  have xx10_0 : ((w9.setCell ⟨w1.heap.size + 1, 4, none⟩ (.int .u16 id))).cell? ⟨(w1.heap.size + 1), 0, none⟩ = some (.int .u8 1) := x10.at_ 0
  have xx10_1 : ((w9.setCell ⟨w1.heap.size + 1, 4, none⟩ (.int .u16 id))).cell? ⟨(w1.heap.size + 1), 1, none⟩ = some (.int .u32 h5) := x10.at_ 1
  have xx10_2 : ((w9.setCell ⟨w1.heap.size + 1, 4, none⟩ (.int .u16 id))).cell? ⟨(w1.heap.size + 1), 2, none⟩ = some (.int .u16 0) := x10.at_ 2
  have xx10_3 : ((w9.setCell ⟨w1.heap.size + 1, 4, none⟩ (.int .u16 id))).cell? ⟨(w1.heap.size + 1), 3, none⟩ = some (.int .u32 h6) := x10.at_ 3
  have xx10_4 : ((w9.setCell ⟨w1.heap.size + 1, 4, none⟩ (.int .u16 id))).cell? ⟨(w1.heap.size + 1), 4, none⟩ = some (.int .u16 id) := x10.at_ 4
  have xx10_5 : ((w9.setCell ⟨w1.heap.size + 1, 4, none⟩ (.int .u16 id))).cell? ⟨(w1.heap.size + 1), 5, none⟩ = some (.int .i64 2) := x10.at_ 5
  have xx10_6 : ((w9.setCell ⟨w1.heap.size + 1, 4, none⟩ (.int .u16 id))).cell? ⟨(w1.heap.size + 1), 6, none⟩ = some (.int .u8 0) := x10.at_ 6
  have xx10_7 : ((w9.setCell ⟨w1.heap.size + 1, 4, none⟩ (.int .u16 id))).cell? ⟨(w1.heap.size + 1), 7, none⟩ = some (.bool false) := x10.at_ 7
  have xx10_8 : ((w9.setCell ⟨w1.heap.size + 1, 4, none⟩ (.int .u16 id))).cell? ⟨(w1.heap.size + 1), 8, none⟩ = some (.int .u8 h3) := x10.at_ 8
  have xd10_0 : ((w9.setCell ⟨w1.heap.size + 1, 4, none⟩ (.int .u16 id))).cell? ⟨w.heap.size, 0, none⟩ = some (.int .u8 0) := d10.at_ 0
  have xd10_1 : ((w9.setCell ⟨w1.heap.size + 1, 4, none⟩ (.int .u16 id))).cell? ⟨w.heap.size, 1, none⟩ = some (.int .u32 0) := d10.at_ 1
  have xd10_2 : ((w9.setCell ⟨w1.heap.size + 1, 4, none⟩ (.int .u16 id))).cell? ⟨w.heap.size, 2, none⟩ = some (.int .u16 0) := d10.at_ 2
  have xd10_3 : ((w9.setCell ⟨w1.heap.size + 1, 4, none⟩ (.int .u16 id))).cell? ⟨w.heap.size, 3, none⟩ = some (.int .u32 0) := d10.at_ 3
  have xd10_4 : ((w9.setCell ⟨w1.heap.size + 1, 4, none⟩ (.int .u16 id))).cell? ⟨w.heap.size, 4, none⟩ = some (.int .u16 0) := d10.at_ 4
  have xd10_5 : ((w9.setCell ⟨w1.heap.size + 1, 4, none⟩ (.int .u16 id))).cell? ⟨w.heap.size, 5, none⟩ = some (.int .i64 0) := d10.at_ 5
  have xd10_6 : ((w9.setCell ⟨w1.heap.size + 1, 4, none⟩ (.int .u16 id))).cell? ⟨w.heap.size, 6, none⟩ = some (.int .u8 0) := d10.at_ 6
  have xd10_7 : ((w9.setCell ⟨w1.heap.size + 1, 4, none⟩ (.int .u16 id))).cell? ⟨w.heap.size, 7, none⟩ = some (.bool false) := d10.at_ 7
  have xd10_8 : ((w9.setCell ⟨w1.heap.size + 1, 4, none⟩ (.int .u16 id))).cell? ⟨w.heap.size, 8, none⟩ = some (.int .u8 0) := d10.at_ 8
  have yd10_0 : ((w9.setCell ⟨w1.heap.size + 1, 4, none⟩ (.int .u16 id))).frozen? ⟨w.heap.size, 0, none⟩ = false := d10.free 0
  have yd10_1 : ((w9.setCell ⟨w1.heap.size + 1, 4, none⟩ (.int .u16 id))).frozen? ⟨w.heap.size, 1, none⟩ = false := d10.free 1
  have yd10_2 : ((w9.setCell ⟨w1.heap.size + 1, 4, none⟩ (.int .u16 id))).frozen? ⟨w.heap.size, 2, none⟩ = false := d10.free 2
  have yd10_3 : ((w9.setCell ⟨w1.heap.size + 1, 4, none⟩ (.int .u16 id))).frozen? ⟨w.heap.size, 3, none⟩ = false := d10.free 3
  have yd10_4 : ((w9.setCell ⟨w1.heap.size + 1, 4, none⟩ (.int .u16 id))).frozen? ⟨w.heap.size, 4, none⟩ = false := d10.free 4
  have yd10_5 : ((w9.setCell ⟨w1.heap.size + 1, 4, none⟩ (.int .u16 id))).frozen? ⟨w.heap.size, 5, none⟩ = false := d10.free 5
  have yd10_6 : ((w9.setCell ⟨w1.heap.size + 1, 4, none⟩ (.int .u16 id))).frozen? ⟨w.heap.size, 6, none⟩ = false := d10.free 6
  have yd10_7 : ((w9.setCell ⟨w1.heap.size + 1, 4, none⟩ (.int .u16 id))).frozen? ⟨w.heap.size, 7, none⟩ = false := d10.free 7
  have yd10_8 : ((w9.setCell ⟨w1.heap.size + 1, 4, none⟩ (.int .u16 id))).frozen? ⟨w.heap.size, 8, none⟩ = false := d10.free 8
  have D10 := hide d10; have B10 := hide b10
  clear d9 x9 e9 bb9 d10 x10 e10 b10
  go_wp2_with fail
  have d10 := D10.out; have b10 := B10.out; have hle := HL.out
  generalize (w9.setCell ⟨w1.heap.size + 1, 4, none⟩ (.int .u16 id)) = W10 at *
  have r5 := (Cells.put9 d10 (.int .u8 1) (.int .u32 h5) (.int .u16 0) (.int .u32 h6) (.int .u16 id) (.int .i64 2) (.int .u8 0) (.bool false) (.int .u8 h3))
  have b5 := (Below.put9 b10 (b := w.heap.size) (by first | exact Nat.le_refl _ | omega) (.int .u8 1) (.int .u32 h5) (.int .u16 0) (.int .u32 h6) (.int .u16 id) (.int .i64 2) (.int .u8 0) (.bool false) (.int .u8 h3))
  have HR5 := hide r5; have HB5 := hide b5
  clear r5 b5 d10
  generalize (((((((((W10.setCell ⟨w.heap.size, 0, none⟩ (.int .u8 1)).setCell ⟨w.heap.size, 1, none⟩ (.int .u32 h5)).setCell ⟨w.heap.size, 2, none⟩ (.int .u16 0)).setCell ⟨w.heap.size, 3, none⟩ (.int .u32 h6)).setCell ⟨w.heap.size, 4, none⟩ (.int .u16 id)).setCell ⟨w.heap.size, 5, none⟩ (.int .i64 2)).setCell ⟨w.heap.size, 6, none⟩ (.int .u8 0)).setCell ⟨w.heap.size, 7, none⟩ (.bool false)).setCell ⟨w.heap.size, 8, none⟩ (.int .u8 h3)) = W5 at *
  have r5 := HR5.out; have b5 := HB5.out
  clear HR5 HB5
  have xr5_0 : W5.cell? ⟨w.heap.size, 0, none⟩ = some (.int .u8 1) := r5.at_ 0
  have xr5_1 : W5.cell? ⟨w.heap.size, 1, none⟩ = some (.int .u32 h5) := r5.at_ 1
  have xr5_2 : W5.cell? ⟨w.heap.size, 2, none⟩ = some (.int .u16 0) := r5.at_ 2
  have xr5_3 : W5.cell? ⟨w.heap.size, 3, none⟩ = some (.int .u32 h6) := r5.at_ 3
  have xr5_4 : W5.cell? ⟨w.heap.size, 4, none⟩ = some (.int .u16 id) := r5.at_ 4
  have xr5_5 : W5.cell? ⟨w.heap.size, 5, none⟩ = some (.int .i64 2) := r5.at_ 5
  have xr5_6 : W5.cell? ⟨w.heap.size, 6, none⟩ = some (.int .u8 0) := r5.at_ 6
  have xr5_7 : W5.cell? ⟨w.heap.size, 7, none⟩ = some (.bool false) := r5.at_ 7
  have xr5_8 : W5.cell? ⟨w.heap.size, 8, none⟩ = some (.int .u8 h3) := r5.at_ 8
  (try simp only [Exit.inBlock, Exit.then]); refine bodyPost_ret (by simp [results, Tryz.results17, go_sem, *]; try rfl) rfl ?_
  first | exact ⟨rfl, b5⟩ | exact ⟨rfl, b5.drew⟩
end Go.Proofs.YtpidgmamollmgaaGreatDoor
end

section
/- The document's answer for what is seen of a packet (porterref08.Of), over this program: the same as the program's. -/
set_option linter.unusedVariables false
set_option linter.unusedSimpArgs false
namespace Go.Proofs.YtpidgmamollmgaaGreatDoor
open Go.RowKit

theorem o_Of (s : ByteArray) (w : World) (hs : s.size ≤ 140737488351232) :
    Calls Tryz.prog 17 #[.string s] w (Ret (.tuple #[.agg (seenOf s).cells, .int .i64 (seenWhy s)]) w) := by
  have c1 := fun W => r4_Parse s W hs
  by_cases hw : ipWhy s = 0
  · have hr : (ipRest s).size ≤ 140737488351232 := by unfold ipRest; rw [if_pos hw, ByteArray.size_extract]; omega
    rw [show hdRes s = hdOf s from by unfold hdRes; rw [if_pos hw], hw] at c1
    have e1 : seenWhy s = loadWhy (hdOf s).p (ipRest s) := by unfold seenWhy; rw [if_pos hw]
    have e2 : seenOf s = if loadWhy (hdOf s).p (ipRest s) = 0 then loadSeen (hdOf s) (ipRest s) else seenNone := by unfold seenOf; rw [e1]
    rw [e1, e2]
    clear e1 e2 hw
    generalize hdOf s = h at *
    generalize ipRest s = l at *
    obtain ⟨h0, h1, h2, h3, h4, h5, h6, h7⟩ := h
    unfold Hd.cells at c1
    simp only at c1 ⊢
    unfold loadWhy loadSeen
    simp only
    by_cases p6 : h4 = 6
    · subst p6
      rw [if_pos rfl, if_pos rfl]
      by_cases ht : tcpIs l = true
      · rw [if_pos ht, if_pos rfl]
        have c2 := fun W => r6_Parse_yes l W hr ht
        by_cases hk : bits .and .u8 (segOf l).f 23 = 2
        · rw [if_pos hk]; exact o_Of_tcp_first s l w _ _ _ _ _ _ _ _ _ _ _ _ _ _ _ _ _ _ hk c1 c2
        · rw [if_neg hk]; exact o_Of_tcp_flow s l w _ _ _ _ _ _ _ _ _ _ _ _ _ _ _ _ _ _ hk c1 c2
      · rw [if_neg ht, if_neg (by decide)]
        have c2 := fun W => r6_Parse_no l W hr (by simpa using ht)
        exact o_Of_tcp_no s l w _ _ _ _ _ _ _ _ c1 c2
    rw [if_neg p6, if_neg p6]
    by_cases p17 : h4 = 17
    · subst p17
      rw [if_pos rfl, if_pos rfl]
      by_cases ht : udpIs l = true
      · rw [if_pos ht, if_pos rfl]
        have c2 := fun W => r5_Parse_yes l W (by unfold maxLen; omega) ht
        unfold udpHead at c2
        exact o_Of_udp_yes s l w _ _ _ _ _ _ _ _ _ _ _ _ c1 c2
      · rw [if_neg ht, if_neg (by decide)]
        have c2 := fun W => r5_Parse_no l W (by unfold maxLen; omega) (by simpa using ht)
        unfold udpNone at c2
        exact o_Of_udp_no s l w _ _ _ _ _ _ _ _ c1 c2
    rw [if_neg p17, if_neg p17]
    by_cases p1 : h4 = 1
    · subst p1
      rw [if_pos rfl]
      by_cases h8 : l.size < 8
      · rw [if_pos h8, if_neg (by decide)]
        have c2 := fun W => r7_Parse_no l W h8
        exact o_Of_msg_no s l w _ _ _ _ _ _ _ c1 c2
      · rw [if_neg h8]
        have c2 := fun W => r7_Parse_yes l W hr (by omega)
        have c3 := fun W => r7_Query (msgOf l) W
        have c4 := fun W => r7_Error (msgOf l) W
        have ok := msgOf_ok hr
        have c5 := fun W => r7_ID (msgOf l) W ok
        have hai : qAsk (msgOf l) = true → qIs (msgOf l) = true := by
          unfold qAsk qIs; simp; intro a b; exact ⟨a, Or.inl b⟩
        by_cases hq : qIs (msgOf l) = true
        · rw [if_pos (Or.inl hq), if_pos rfl]
          by_cases ha : qAsk (msgOf l) = true
          · rw [if_pos ha]
            rw [ha, hq] at c3
            exact o_Of_msg_ask (qErr (msgOf l)) s l w _ _ _ _ _ _ _ _ _ _ _ _ _ c1 c2 c3 c4 c5
          · rw [if_neg ha, if_pos hq]
            rw [show qAsk (msgOf l) = false from by simpa using ha, hq] at c3
            exact o_Of_msg_told (qErr (msgOf l)) s l w _ _ _ _ _ _ _ _ _ _ _ _ _ c1 c2 c3 c4 c5
        · have hq' : qIs (msgOf l) = false := by simpa using hq
          have ha : qAsk (msgOf l) = false := by
            cases h : qAsk (msgOf l)
            · rfl
            · exact absurd (hai h) hq
          rw [ha, hq'] at c3
          by_cases he : qErr (msgOf l) = true
          · rw [if_pos (Or.inr he), if_pos rfl, if_neg (by rw [ha]; decide), if_neg hq]
            rw [he] at c4
            exact o_Of_msg_err s l w _ _ _ _ _ _ _ _ _ _ _ _ _ c1 c2 c3 c4 c5
          · rw [if_neg (show ¬ (qIs (msgOf l) = true ∨ qErr (msgOf l) = true) by simp [hq', he]), if_neg (show ¬ (6 : Int) = 0 by decide)]
            rw [show qErr (msgOf l) = false from by simpa using he] at c4
            exact o_Of_msg_none s l w _ _ _ _ _ _ _ _ _ _ _ _ _ c1 c2 c3 c4 c5
    · rw [if_neg p1, if_neg (by decide)]
      exact o_Of_other s l w _ _ _ _ _ _ _ _ c1 ⟨p6, p17, p1⟩
  · have e1 : seenWhy s = ipWhy s := by unfold seenWhy; rw [if_neg hw]
    have e2 : seenOf s = seenNone := by unfold seenOf; rw [e1, if_neg hw]
    rw [e1, e2]
    unfold Hd.cells at c1
    exact o_Of_bad s _ w _ _ _ _ _ _ _ _ _ hw c1
end Go.Proofs.YtpidgmamollmgaaGreatDoor
end
