/- Several texts of this claim, one behind the other. -/
import Derived.Test.YtilfcikhipadpaaGreatDoorK28

section
/- The document's answer for what is seen of a packet (porterref08.Of), first half, over this program. -/
set_option linter.unusedVariables false
set_option linter.unusedSimpArgs false
namespace Go.Proofs.YtilfcikhipadpaaGreatDoor
open Go.RowKit
attribute [local go_sem] Oper.semAt_some

set_option maxRecDepth 100000 in
set_option maxHeartbeats 4000000 in
theorem o_Of_bad (s l : ByteArray) (w : World) (h0 h1 h3 h4 h5 h6 : Int) (h2 : Bool) (h7 : ByteArray) (r : Int) (hr : r ≠ 0)
    (c1 : ∀ W, Calls Tryz.prog 81 #[.string s] W (Ret (.tuple #[.agg #[.int .u8 h0, .int .u16 h1, .bool h2, .int .u8 h3, .int .u8 h4, .int .u32 h5, .int .u32 h6, .string h7], .string l, .int .i64 r]) W)) :
    Calls Tryz.prog 37 #[.string s] w (Ret (.tuple #[.agg #[.int .u8 0, .int .u32 0, .int .u16 0, .int .u32 0, .int .u16 0, .int .i64 0, .int .u8 0, .bool false, .int .u8 0], .int .i64 r]) w) := by
  have q1 : (r != 0) = true := by simpa using hr
  have q2 : (r == 0) = false := by simpa using hr
  have C1 := hide c1
  clear c1 hr
  go_enter Tryz.func37, Tryz.ntmps37
  have d0 := Cells.new w #[.int .u8 0, .int .u32 0, .int .u16 0, .int .u32 0, .int .u16 0, .int .i64 0, .int .u8 0, .bool false, .int .u8 0] 40
  go_wp2_with fail
  (with_reducible refine (C1.out _).mono ?_)
  rintro e w1 ⟨rfl, b1⟩
  have d1 := Cells.alloc (Cells.below b1 d0) (.cells #[.int .u8 h0, .int .u16 h1, .bool h2, .int .u8 h3, .int .u8 h4, .int .u32 h5, .int .u32 h6, .string h7] 160)
  replace b1 : Below w.heap.size w (w1.alloc (.cells #[.int .u8 h0, .int .u16 h1, .bool h2, .int .u8 h3, .int .u8 h4, .int .u32 h5, .int .u32 h6, .string h7] 160)) := bstep (bstep (fresh_below _ _) b1) (fresh_below _ _)
  obtain ⟨xd1_0, xd1_1, xd1_2, xd1_3, xd1_4, xd1_5, xd1_6, xd1_7, xd1_8⟩ := d1.x9
  obtain ⟨yd1_0, yd1_1, yd1_2, yd1_3, yd1_4, yd1_5, yd1_6, yd1_7, yd1_8⟩ := d1.y9
  clear d0
  go_wp2_with fail
  generalize w1.alloc (.cells #[.int .u8 h0, .int .u16 h1, .bool h2, .int .u8 h3, .int .u8 h4, .int .u32 h5, .int .u32 h6, .string h7] 160) = W at *
  have r5 := (Cells.put9 d1 (.int .u8 0) (.int .u32 0) (.int .u16 0) (.int .u32 0) (.int .u16 0) (.int .i64 0) (.int .u8 0) (.bool false) (.int .u8 0))
  have b5 := (Below.put9 b1 (b := w.heap.size) (by first | exact Nat.le_refl _ | omega) (.int .u8 0) (.int .u32 0) (.int .u16 0) (.int .u32 0) (.int .u16 0) (.int .i64 0) (.int .u8 0) (.bool false) (.int .u8 0))
  have HR5 := hide r5; have HB5 := hide b5
  clear r5 b5 d1
  generalize (((((((((W.setCell ⟨w.heap.size, 0, none⟩ (.int .u8 0)).setCell ⟨w.heap.size, 1, none⟩ (.int .u32 0)).setCell ⟨w.heap.size, 2, none⟩ (.int .u16 0)).setCell ⟨w.heap.size, 3, none⟩ (.int .u32 0)).setCell ⟨w.heap.size, 4, none⟩ (.int .u16 0)).setCell ⟨w.heap.size, 5, none⟩ (.int .i64 0)).setCell ⟨w.heap.size, 6, none⟩ (.int .u8 0)).setCell ⟨w.heap.size, 7, none⟩ (.bool false)).setCell ⟨w.heap.size, 8, none⟩ (.int .u8 0)) = W5 at *
  have r5 := HR5.out; have b5 := HB5.out
  clear HR5 HB5
  obtain ⟨xr5_0, xr5_1, xr5_2, xr5_3, xr5_4, xr5_5, xr5_6, xr5_7, xr5_8⟩ := r5.x9
  (try simp only [Exit.inBlock, Exit.then]); refine bodyPost_ret (by simp [results, Tryz.results37, go_sem, *]; try rfl) rfl ?_
  first | exact ⟨rfl, b5⟩ | exact ⟨rfl, b5.drew⟩

set_option maxRecDepth 100000 in
set_option maxHeartbeats 4000000 in
theorem o_Of_other (s l : ByteArray) (w : World) (h0 h1 h3 h4 h5 h6 : Int) (h2 : Bool) (h7 : ByteArray)
    (c1 : ∀ W, Calls Tryz.prog 81 #[.string s] W (Ret (.tuple #[.agg #[.int .u8 h0, .int .u16 h1, .bool h2, .int .u8 h3, .int .u8 h4, .int .u32 h5, .int .u32 h6, .string h7], .string l, .int .i64 0]) W))
    (hp : h4 ≠ 6 ∧ h4 ≠ 17 ∧ h4 ≠ 1) :
    Calls Tryz.prog 37 #[.string s] w (Ret (.tuple #[.agg #[.int .u8 0, .int .u32 0, .int .u16 0, .int .u32 0, .int .u16 0, .int .i64 0, .int .u8 0, .bool false, .int .u8 0], .int .i64 6]) w) := by
  have q1 : (h4 == 6) = false := by simpa using hp.1
  have q2 : (h4 == 17) = false := by simpa using hp.2.1
  have q3 : (h4 == 1) = false := by simpa using hp.2.2
  have C1 := hide c1
  clear c1 hp
  go_enter Tryz.func37, Tryz.ntmps37
  have d0 := Cells.new w #[.int .u8 0, .int .u32 0, .int .u16 0, .int .u32 0, .int .u16 0, .int .i64 0, .int .u8 0, .bool false, .int .u8 0] 40
  go_wp2_with fail
  (with_reducible refine (C1.out _).mono ?_)
  rintro e w1 ⟨rfl, b1⟩
  have d1 := Cells.below b1 d0
  have e1 := Cells.new w1 #[.int .u8 h0, .int .u16 h1, .bool h2, .int .u8 h3, .int .u8 h4, .int .u32 h5, .int .u32 h6, .string h7] 160
  obtain ⟨xe1_0, xe1_1, xe1_2, xe1_3, xe1_4, xe1_5, xe1_6, xe1_7⟩ := e1.x8
  have d3 := Cells.alloc (Cells.alloc d1 (.cells #[.int .u8 h0, .int .u16 h1, .bool h2, .int .u8 h3, .int .u8 h4, .int .u32 h5, .int .u32 h6, .string h7] 160)) (.cells #[.int .u8 h4, .int .u32 h5, .int .u16 0, .int .u32 h6, .int .u16 0, .int .i64 2, .int .u8 0, .bool false, .int .u8 h3] 40)
  have e3 := Cells.alloc e1 (.cells #[.int .u8 h4, .int .u32 h5, .int .u16 0, .int .u32 h6, .int .u16 0, .int .i64 2, .int .u8 0, .bool false, .int .u8 h3] 40)
  have xe3_4 : (((w1.alloc (.cells #[.int .u8 h0, .int .u16 h1, .bool h2, .int .u8 h3, .int .u8 h4, .int .u32 h5, .int .u32 h6, .string h7] 160)).alloc (.cells #[.int .u8 h4, .int .u32 h5, .int .u16 0, .int .u32 h6, .int .u16 0, .int .i64 2, .int .u8 0, .bool false, .int .u8 h3] 40))).cell? ⟨w1.heap.size, 4, none⟩ = some (.int .u8 h4) := e3.at_ 4
  have x3 : Cells ((w1.alloc (.cells #[.int .u8 h0, .int .u16 h1, .bool h2, .int .u8 h3, .int .u8 h4, .int .u32 h5, .int .u32 h6, .string h7] 160)).alloc (.cells #[.int .u8 h4, .int .u32 h5, .int .u16 0, .int .u32 h6, .int .u16 0, .int .i64 2, .int .u8 0, .bool false, .int .u8 h3] 40)) (w1.heap.size + 1) #[.int .u8 h4, .int .u32 h5, .int .u16 0, .int .u32 h6, .int .u16 0, .int .i64 2, .int .u8 0, .bool false, .int .u8 h3] 40 := by
    have := Cells.new (w1.alloc (.cells #[.int .u8 h0, .int .u16 h1, .bool h2, .int .u8 h3, .int .u8 h4, .int .u32 h5, .int .u32 h6, .string h7] 160)) #[.int .u8 h4, .int .u32 h5, .int .u16 0, .int .u32 h6, .int .u16 0, .int .i64 2, .int .u8 0, .bool false, .int .u8 h3] 40
    rw [show (w1.alloc (.cells #[.int .u8 h0, .int .u16 h1, .bool h2, .int .u8 h3, .int .u8 h4, .int .u32 h5, .int .u32 h6, .string h7] 160)).heap.size = w1.heap.size + 1 from by simp] at this
    exact this
  have b3 : Below w.heap.size w ((w1.alloc (.cells #[.int .u8 h0, .int .u16 h1, .bool h2, .int .u8 h3, .int .u8 h4, .int .u32 h5, .int .u32 h6, .string h7] 160)).alloc (.cells #[.int .u8 h4, .int .u32 h5, .int .u16 0, .int .u32 h6, .int .u16 0, .int .i64 2, .int .u8 0, .bool false, .int .u8 h3] 40)) := bstep (bstep (bstep (fresh_below _ _) b1) (fresh_below _ _)) (fresh_below _ _)
  have hlt : w.heap.size ≠ w1.heap.size + 1 := by have := d1.lt; omega
  have hle : w.heap.size ≤ w1.heap.size + 1 := by have := d1.lt; omega
  have D3 := hide d3; have X3 := hide x3; have B3 := hide b3; have HN := hide hlt; have HL := hide hle
  clear d0 d1 e1 d3 e3 x3 b3 b1 hlt hle
  have d3 := D3.out; have b3 := B3.out
  obtain ⟨xd3_0, xd3_1, xd3_2, xd3_3, xd3_4, xd3_5, xd3_6, xd3_7, xd3_8⟩ := d3.x9
  obtain ⟨yd3_0, yd3_1, yd3_2, yd3_3, yd3_4, yd3_5, yd3_6, yd3_7, yd3_8⟩ := d3.y9
  go_wp2_with fail
  generalize ((w1.alloc (.cells #[.int .u8 h0, .int .u16 h1, .bool h2, .int .u8 h3, .int .u8 h4, .int .u32 h5, .int .u32 h6, .string h7] 160)).alloc (.cells #[.int .u8 h4, .int .u32 h5, .int .u16 0, .int .u32 h6, .int .u16 0, .int .i64 2, .int .u8 0, .bool false, .int .u8 h3] 40)) = W at *
  have r5 := (Cells.put9 d3 (.int .u8 0) (.int .u32 0) (.int .u16 0) (.int .u32 0) (.int .u16 0) (.int .i64 0) (.int .u8 0) (.bool false) (.int .u8 0))
  have b5 := (Below.put9 b3 (b := w.heap.size) (by first | exact Nat.le_refl _ | omega) (.int .u8 0) (.int .u32 0) (.int .u16 0) (.int .u32 0) (.int .u16 0) (.int .i64 0) (.int .u8 0) (.bool false) (.int .u8 0))
  have HR5 := hide r5; have HB5 := hide b5
  clear r5 b5 d3
  generalize (((((((((W.setCell ⟨w.heap.size, 0, none⟩ (.int .u8 0)).setCell ⟨w.heap.size, 1, none⟩ (.int .u32 0)).setCell ⟨w.heap.size, 2, none⟩ (.int .u16 0)).setCell ⟨w.heap.size, 3, none⟩ (.int .u32 0)).setCell ⟨w.heap.size, 4, none⟩ (.int .u16 0)).setCell ⟨w.heap.size, 5, none⟩ (.int .i64 0)).setCell ⟨w.heap.size, 6, none⟩ (.int .u8 0)).setCell ⟨w.heap.size, 7, none⟩ (.bool false)).setCell ⟨w.heap.size, 8, none⟩ (.int .u8 0)) = W5 at *
  have r5 := HR5.out; have b5 := HB5.out
  clear HR5 HB5
  obtain ⟨xr5_0, xr5_1, xr5_2, xr5_3, xr5_4, xr5_5, xr5_6, xr5_7, xr5_8⟩ := r5.x9
  (try simp only [Exit.inBlock, Exit.then]); refine bodyPost_ret (by simp [results, Tryz.results37, go_sem, *]; try rfl) rfl ?_
  first | exact ⟨rfl, b5⟩ | exact ⟨rfl, b5.drew⟩

set_option maxRecDepth 100000 in
set_option maxHeartbeats 4000000 in
theorem o_Of_tcp_no (s l : ByteArray) (w : World) (h0 h1 h3 h5 h6 : Int) (h2 : Bool) (h7 : ByteArray) (r : ByteArray)
    (c1 : ∀ W, Calls Tryz.prog 81 #[.string s] W (Ret (.tuple #[.agg #[.int .u8 h0, .int .u16 h1, .bool h2, .int .u8 h3, .int .u8 6, .int .u32 h5, .int .u32 h6, .string h7], .string l, .int .i64 0]) W))
    (c2 : ∀ W, Calls Tryz.prog 82 #[.string l] W (Ret (.tuple #[.agg #[.int .u16 0, .int .u16 0, .int .u32 0, .int .u32 0, .int .u8 0, .int .u8 0, .int .u16 0, .int .u16 0, .int .u16 0, .string { data := #[] }], .string r, .bool false]) W)) :
    Calls Tryz.prog 37 #[.string s] w (Ret (.tuple #[.agg #[.int .u8 0, .int .u32 0, .int .u16 0, .int .u32 0, .int .u16 0, .int .i64 0, .int .u8 0, .bool false, .int .u8 0], .int .i64 7]) w) := by
  have C1 := hide c1; have C2 := hide c2
  clear c1 c2
  go_enter Tryz.func37, Tryz.ntmps37
  have d0 := Cells.new w #[.int .u8 0, .int .u32 0, .int .u16 0, .int .u32 0, .int .u16 0, .int .i64 0, .int .u8 0, .bool false, .int .u8 0] 40
  go_wp2_with fail
  (with_reducible refine (C1.out _).mono ?_)
  rintro e w1 ⟨rfl, b1⟩
  have d1 := Cells.below b1 d0
  have e1 := Cells.new w1 #[.int .u8 h0, .int .u16 h1, .bool h2, .int .u8 h3, .int .u8 6, .int .u32 h5, .int .u32 h6, .string h7] 160
  obtain ⟨xe1_0, xe1_1, xe1_2, xe1_3, xe1_4, xe1_5, xe1_6, xe1_7⟩ := e1.x8
  have d3 := Cells.alloc (Cells.alloc d1 (.cells #[.int .u8 h0, .int .u16 h1, .bool h2, .int .u8 h3, .int .u8 6, .int .u32 h5, .int .u32 h6, .string h7] 160)) (.cells #[.int .u8 6, .int .u32 h5, .int .u16 0, .int .u32 h6, .int .u16 0, .int .i64 2, .int .u8 0, .bool false, .int .u8 h3] 40)
  have e3 := Cells.alloc e1 (.cells #[.int .u8 6, .int .u32 h5, .int .u16 0, .int .u32 h6, .int .u16 0, .int .i64 2, .int .u8 0, .bool false, .int .u8 h3] 40)
  have xe3_4 : (((w1.alloc (.cells #[.int .u8 h0, .int .u16 h1, .bool h2, .int .u8 h3, .int .u8 6, .int .u32 h5, .int .u32 h6, .string h7] 160)).alloc (.cells #[.int .u8 6, .int .u32 h5, .int .u16 0, .int .u32 h6, .int .u16 0, .int .i64 2, .int .u8 0, .bool false, .int .u8 h3] 40))).cell? ⟨w1.heap.size, 4, none⟩ = some (.int .u8 6) := e3.at_ 4
  have x3 : Cells ((w1.alloc (.cells #[.int .u8 h0, .int .u16 h1, .bool h2, .int .u8 h3, .int .u8 6, .int .u32 h5, .int .u32 h6, .string h7] 160)).alloc (.cells #[.int .u8 6, .int .u32 h5, .int .u16 0, .int .u32 h6, .int .u16 0, .int .i64 2, .int .u8 0, .bool false, .int .u8 h3] 40)) (w1.heap.size + 1) #[.int .u8 6, .int .u32 h5, .int .u16 0, .int .u32 h6, .int .u16 0, .int .i64 2, .int .u8 0, .bool false, .int .u8 h3] 40 := by
    have := Cells.new (w1.alloc (.cells #[.int .u8 h0, .int .u16 h1, .bool h2, .int .u8 h3, .int .u8 6, .int .u32 h5, .int .u32 h6, .string h7] 160)) #[.int .u8 6, .int .u32 h5, .int .u16 0, .int .u32 h6, .int .u16 0, .int .i64 2, .int .u8 0, .bool false, .int .u8 h3] 40
    rw [show (w1.alloc (.cells #[.int .u8 h0, .int .u16 h1, .bool h2, .int .u8 h3, .int .u8 6, .int .u32 h5, .int .u32 h6, .string h7] 160)).heap.size = w1.heap.size + 1 from by simp] at this
    exact this
  have b3 : Below w.heap.size w ((w1.alloc (.cells #[.int .u8 h0, .int .u16 h1, .bool h2, .int .u8 h3, .int .u8 6, .int .u32 h5, .int .u32 h6, .string h7] 160)).alloc (.cells #[.int .u8 6, .int .u32 h5, .int .u16 0, .int .u32 h6, .int .u16 0, .int .i64 2, .int .u8 0, .bool false, .int .u8 h3] 40)) := bstep (bstep (bstep (fresh_below _ _) b1) (fresh_below _ _)) (fresh_below _ _)
  have hlt : w.heap.size ≠ w1.heap.size + 1 := by have := d1.lt; omega
  have hle : w.heap.size ≤ w1.heap.size + 1 := by have := d1.lt; omega
  have D3 := hide d3; have X3 := hide x3; have B3 := hide b3; have HN := hide hlt; have HL := hide hle
  clear d0 d1 e1 d3 e3 x3 b3 b1 hlt hle
  go_wp2_with fail
  (with_reducible refine (C2.out _).mono ?_)
  rintro e w4 ⟨rfl, b4⟩
  have d4 := Cells.alloc (Cells.below b4 D3.out) (.cells #[.int .u16 0, .int .u16 0, .int .u32 0, .int .u32 0, .int .u8 0, .int .u8 0, .int .u16 0, .int .u16 0, .int .u16 0, .string { data := #[] }] 180)
  have x4 := Cells.alloc (Cells.below b4 X3.out) (.cells #[.int .u16 0, .int .u16 0, .int .u32 0, .int .u32 0, .int .u8 0, .int .u8 0, .int .u16 0, .int .u16 0, .int .u16 0, .string { data := #[] }] 180)
  have e4 := Cells.new w4 #[.int .u16 0, .int .u16 0, .int .u32 0, .int .u32 0, .int .u8 0, .int .u8 0, .int .u16 0, .int .u16 0, .int .u16 0, .string { data := #[] }] 180
  have b5 : Below w.heap.size w (w4.alloc (.cells #[.int .u16 0, .int .u16 0, .int .u32 0, .int .u32 0, .int .u8 0, .int .u8 0, .int .u16 0, .int .u16 0, .int .u16 0, .string { data := #[] }] 180)) := bstep (bstep B3.out b4) (fresh_below _ _)
  have hgw : w4.heap.size ≠ w.heap.size := by have := (Cells.below b4 D3.out).lt; omega
  have hgx : w4.heap.size ≠ w1.heap.size + 1 := by have := (Cells.below b4 X3.out).lt; omega
  have HGW := hide hgw; have HGX := hide hgx
  clear D3 X3 B3 b4 C1 C2 hgw hgx
  obtain ⟨xd4_0, xd4_1, xd4_2, xd4_3, xd4_4, xd4_5, xd4_6, xd4_7, xd4_8⟩ := d4.x9
  obtain ⟨yd4_0, yd4_1, yd4_2, yd4_3, yd4_4, yd4_5, yd4_6, yd4_7, yd4_8⟩ := d4.y9
  go_wp2_with fail
  generalize (w4.alloc (.cells #[.int .u16 0, .int .u16 0, .int .u32 0, .int .u32 0, .int .u8 0, .int .u8 0, .int .u16 0, .int .u16 0, .int .u16 0, .string { data := #[] }] 180)) = W at *
  have r5 := (Cells.put9 d4 (.int .u8 0) (.int .u32 0) (.int .u16 0) (.int .u32 0) (.int .u16 0) (.int .i64 0) (.int .u8 0) (.bool false) (.int .u8 0))
  have b5 := (Below.put9 b5 (b := w.heap.size) (by first | exact Nat.le_refl _ | omega) (.int .u8 0) (.int .u32 0) (.int .u16 0) (.int .u32 0) (.int .u16 0) (.int .i64 0) (.int .u8 0) (.bool false) (.int .u8 0))
  have HR5 := hide r5; have HB5 := hide b5
  clear r5 b5 d4
  generalize (((((((((W.setCell ⟨w.heap.size, 0, none⟩ (.int .u8 0)).setCell ⟨w.heap.size, 1, none⟩ (.int .u32 0)).setCell ⟨w.heap.size, 2, none⟩ (.int .u16 0)).setCell ⟨w.heap.size, 3, none⟩ (.int .u32 0)).setCell ⟨w.heap.size, 4, none⟩ (.int .u16 0)).setCell ⟨w.heap.size, 5, none⟩ (.int .i64 0)).setCell ⟨w.heap.size, 6, none⟩ (.int .u8 0)).setCell ⟨w.heap.size, 7, none⟩ (.bool false)).setCell ⟨w.heap.size, 8, none⟩ (.int .u8 0)) = W5 at *
  have r5 := HR5.out; have b5 := HB5.out
  clear HR5 HB5
  obtain ⟨xr5_0, xr5_1, xr5_2, xr5_3, xr5_4, xr5_5, xr5_6, xr5_7, xr5_8⟩ := r5.x9
  (try simp only [Exit.inBlock, Exit.then]); refine bodyPost_ret (by simp [results, Tryz.results37, go_sem, *]; try rfl) rfl ?_
  first | exact ⟨rfl, b5⟩ | exact ⟨rfl, b5.drew⟩

set_option maxRecDepth 100000 in
set_option maxHeartbeats 4000000 in
theorem o_Of_tcp_first (s l : ByteArray) (w : World) (h0 h1 h3 h5 h6 : Int) (h2 : Bool) (h7 : ByteArray) (g0 g1 g2 g3 g4 g5 g6 g7 g8 : Int) (g9 r : ByteArray) (hk : bits .and .u8 g5 23 = 2)
    (c1 : ∀ W, Calls Tryz.prog 81 #[.string s] W (Ret (.tuple #[.agg #[.int .u8 h0, .int .u16 h1, .bool h2, .int .u8 h3, .int .u8 6, .int .u32 h5, .int .u32 h6, .string h7], .string l, .int .i64 0]) W))
    (c2 : ∀ W, Calls Tryz.prog 82 #[.string l] W (Ret (.tuple #[.agg #[.int .u16 g0, .int .u16 g1, .int .u32 g2, .int .u32 g3, .int .u8 g4, .int .u8 g5, .int .u16 g6, .int .u16 g7, .int .u16 g8, .string g9], .string r, .bool true]) W)) :
    Calls Tryz.prog 37 #[.string s] w (Ret (.tuple #[.agg #[.int .u8 6, .int .u32 h5, .int .u16 g0, .int .u32 h6, .int .u16 g1, .int .i64 1, .int .u8 g5, .bool false, .int .u8 h3], .int .i64 0]) w) := by
  have q1 : (bits .and .u8 g5 23 == 2) = true := by simpa using hk
  clear hk
  have C1 := hide c1; have C2 := hide c2
  clear c1 c2
  go_enter Tryz.func37, Tryz.ntmps37
  have d0 := Cells.new w #[.int .u8 0, .int .u32 0, .int .u16 0, .int .u32 0, .int .u16 0, .int .i64 0, .int .u8 0, .bool false, .int .u8 0] 40
  go_wp2_with fail
  (with_reducible refine (C1.out _).mono ?_)
  rintro e w1 ⟨rfl, b1⟩
  have d1 := Cells.below b1 d0
  have e1 := Cells.new w1 #[.int .u8 h0, .int .u16 h1, .bool h2, .int .u8 h3, .int .u8 6, .int .u32 h5, .int .u32 h6, .string h7] 160
  obtain ⟨xe1_0, xe1_1, xe1_2, xe1_3, xe1_4, xe1_5, xe1_6, xe1_7⟩ := e1.x8
  have d3 := Cells.alloc (Cells.alloc d1 (.cells #[.int .u8 h0, .int .u16 h1, .bool h2, .int .u8 h3, .int .u8 6, .int .u32 h5, .int .u32 h6, .string h7] 160)) (.cells #[.int .u8 6, .int .u32 h5, .int .u16 0, .int .u32 h6, .int .u16 0, .int .i64 2, .int .u8 0, .bool false, .int .u8 h3] 40)
  have e3 := Cells.alloc e1 (.cells #[.int .u8 6, .int .u32 h5, .int .u16 0, .int .u32 h6, .int .u16 0, .int .i64 2, .int .u8 0, .bool false, .int .u8 h3] 40)
  have xe3_4 : (((w1.alloc (.cells #[.int .u8 h0, .int .u16 h1, .bool h2, .int .u8 h3, .int .u8 6, .int .u32 h5, .int .u32 h6, .string h7] 160)).alloc (.cells #[.int .u8 6, .int .u32 h5, .int .u16 0, .int .u32 h6, .int .u16 0, .int .i64 2, .int .u8 0, .bool false, .int .u8 h3] 40))).cell? ⟨w1.heap.size, 4, none⟩ = some (.int .u8 6) := e3.at_ 4
  have x3 : Cells ((w1.alloc (.cells #[.int .u8 h0, .int .u16 h1, .bool h2, .int .u8 h3, .int .u8 6, .int .u32 h5, .int .u32 h6, .string h7] 160)).alloc (.cells #[.int .u8 6, .int .u32 h5, .int .u16 0, .int .u32 h6, .int .u16 0, .int .i64 2, .int .u8 0, .bool false, .int .u8 h3] 40)) (w1.heap.size + 1) #[.int .u8 6, .int .u32 h5, .int .u16 0, .int .u32 h6, .int .u16 0, .int .i64 2, .int .u8 0, .bool false, .int .u8 h3] 40 := by
    have := Cells.new (w1.alloc (.cells #[.int .u8 h0, .int .u16 h1, .bool h2, .int .u8 h3, .int .u8 6, .int .u32 h5, .int .u32 h6, .string h7] 160)) #[.int .u8 6, .int .u32 h5, .int .u16 0, .int .u32 h6, .int .u16 0, .int .i64 2, .int .u8 0, .bool false, .int .u8 h3] 40
    rw [show (w1.alloc (.cells #[.int .u8 h0, .int .u16 h1, .bool h2, .int .u8 h3, .int .u8 6, .int .u32 h5, .int .u32 h6, .string h7] 160)).heap.size = w1.heap.size + 1 from by simp] at this
    exact this
  have b3 : Below w.heap.size w ((w1.alloc (.cells #[.int .u8 h0, .int .u16 h1, .bool h2, .int .u8 h3, .int .u8 6, .int .u32 h5, .int .u32 h6, .string h7] 160)).alloc (.cells #[.int .u8 6, .int .u32 h5, .int .u16 0, .int .u32 h6, .int .u16 0, .int .i64 2, .int .u8 0, .bool false, .int .u8 h3] 40)) := bstep (bstep (bstep (fresh_below _ _) b1) (fresh_below _ _)) (fresh_below _ _)
  have hlt : w.heap.size ≠ w1.heap.size + 1 := by have := d1.lt; omega
  have hle : w.heap.size ≤ w1.heap.size + 1 := by have := d1.lt; omega
  have D3 := hide d3; have X3 := hide x3; have B3 := hide b3; have HN := hide hlt; have HL := hide hle
  clear d0 d1 e1 d3 e3 x3 b3 b1 hlt hle
  go_wp2_with fail
  (with_reducible refine (C2.out _).mono ?_)
  rintro e w4 ⟨rfl, b4⟩
  have d4 := Cells.alloc (Cells.below b4 D3.out) (.cells #[.int .u16 g0, .int .u16 g1, .int .u32 g2, .int .u32 g3, .int .u8 g4, .int .u8 g5, .int .u16 g6, .int .u16 g7, .int .u16 g8, .string g9] 180)
  have x4 := Cells.alloc (Cells.below b4 X3.out) (.cells #[.int .u16 g0, .int .u16 g1, .int .u32 g2, .int .u32 g3, .int .u8 g4, .int .u8 g5, .int .u16 g6, .int .u16 g7, .int .u16 g8, .string g9] 180)
  have e4 := Cells.new w4 #[.int .u16 g0, .int .u16 g1, .int .u32 g2, .int .u32 g3, .int .u8 g4, .int .u8 g5, .int .u16 g6, .int .u16 g7, .int .u16 g8, .string g9] 180
  have b5 : Below w.heap.size w (w4.alloc (.cells #[.int .u16 g0, .int .u16 g1, .int .u32 g2, .int .u32 g3, .int .u8 g4, .int .u8 g5, .int .u16 g6, .int .u16 g7, .int .u16 g8, .string g9] 180)) := bstep (bstep B3.out b4) (fresh_below _ _)
  have hgw : w4.heap.size ≠ w.heap.size := by have := (Cells.below b4 D3.out).lt; omega
  have hgx : w4.heap.size ≠ w1.heap.size + 1 := by have := (Cells.below b4 X3.out).lt; omega
  have HGW := hide hgw; have HGX := hide hgx
  clear D3 X3 B3 b4 C1 C2 hgw hgx
  obtain ⟨xx4_0, xx4_1, xx4_2, xx4_3, xx4_4, xx4_5, xx4_6, xx4_7, xx4_8⟩ := x4.x9
  obtain ⟨yx4_0, yx4_1, yx4_2, yx4_3, yx4_4, yx4_5, yx4_6, yx4_7, yx4_8⟩ := x4.y9
  obtain ⟨xe4_0, xe4_1, xe4_2, xe4_3, xe4_4, xe4_5, xe4_6, xe4_7, xe4_8, xe4_9⟩ := e4.x10
  have fS := hide (fun (X : World) (hX : Cells X w4.heap.size #[.int .u16 g0, .int .u16 g1, .int .u32 g2, .int .u32 g3, .int .u8 g4, .int .u8 g5, .int .u16 g6, .int .u16 g7, .int .u16 g8, .string g9] 180) => (show World.cell? X ⟨w4.heap.size, 0, none⟩ = some (.int .u16 g0) ∧ World.cell? X ⟨w4.heap.size, 1, none⟩ = some (.int .u16 g1) ∧ World.cell? X ⟨w4.heap.size, 5, none⟩ = some (.int .u8 g5) from ⟨hX.at_ 0, hX.at_ 1, hX.at_ 5⟩))
  have E4 := hide e4; have X4 := hide x4; have D4 := hide d4; have B5 := hide b5
  clear d4 b5
  go_wp2_with fail
  generalize (w4.alloc (.cells #[.int .u16 g0, .int .u16 g1, .int .u32 g2, .int .u32 g3, .int .u8 g4, .int .u8 g5, .int .u16 g6, .int .u16 g7, .int .u16 g8, .string g9] 180)) = w5 at *
  go_region_held3 (fun zW => World.cell? zW ⟨w4.heap.size, 0, none⟩ = some (.int .u16 g0) ∧ World.cell? zW ⟨w4.heap.size, 1, none⟩ = some (.int .u16 g1) ∧ World.cell? zW ⟨w4.heap.size, 5, none⟩ = some (.int .u8 g5)) (((try dsimp only); with_reducible refine fS.out _ ?_; (repeat' (first | with_reducible exact E4.out | with_reducible refine Cells.drew ?_ | with_reducible refine Cells.other ?_ HGX.out _ _))))
    (fail)
  all_goals
    generalize hW6 : World.setCell _ _ _ = W6
    have x6 : Cells W6 (w1.heap.size + 1) #[.int .u8 6, .int .u32 h5, .int .u16 g0, .int .u32 h6, .int .u16 g1, .int .i64 2, .int .u8 g5, .bool false, .int .u8 h3] 40 := by rw [← hW6]; (first | exact (((X4.out.drew.set_ 2 (.int .u16 g0)).set_ 4 (.int .u16 g1)).set_ 6 (.int .u8 g5)) | exact (((X4.out.drew.set_ 2 (.int .u16 g0)).set_ 6 (.int .u8 g5)).set_ 4 (.int .u16 g1)) | exact (((X4.out.drew.set_ 4 (.int .u16 g1)).set_ 2 (.int .u16 g0)).set_ 6 (.int .u8 g5)) | exact (((X4.out.drew.set_ 4 (.int .u16 g1)).set_ 6 (.int .u8 g5)).set_ 2 (.int .u16 g0)) | exact (((X4.out.drew.set_ 6 (.int .u8 g5)).set_ 2 (.int .u16 g0)).set_ 4 (.int .u16 g1)) | exact (((X4.out.drew.set_ 6 (.int .u8 g5)).set_ 4 (.int .u16 g1)).set_ 2 (.int .u16 g0)))
    have e6 : Cells W6 w4.heap.size #[.int .u16 g0, .int .u16 g1, .int .u32 g2, .int .u32 g3, .int .u8 g4, .int .u8 g5, .int .u16 g6, .int .u16 g7, .int .u16 g8, .string g9] 180 := by rw [← hW6]; (repeat' (first | with_reducible exact E4.out | with_reducible refine Cells.drew ?_ | with_reducible refine Cells.other ?_ HGX.out _ _))
    have d6 : Cells W6 w.heap.size #[.int .u8 0, .int .u32 0, .int .u16 0, .int .u32 0, .int .u16 0, .int .i64 0, .int .u8 0, .bool false, .int .u8 0] 40 := by rw [← hW6]; (repeat' (first | with_reducible exact D4.out | with_reducible refine Cells.drew ?_ | with_reducible refine Cells.other ?_ HN.out _ _))
    have b6 : Below w.heap.size w W6 := by rw [← hW6]; (repeat' (first | with_reducible exact B5.out | with_reducible refine Below.setCell ?_ (by have := HL.out; dsimp only; omega) _ | with_reducible refine Below.drew ?_))
    clear hW6
    have HX6 := hide x6; have HD6 := hide d6; have HB6 := hide b6
    have xe6_5 : W6.cell? ⟨w4.heap.size, 5, none⟩ = some (.int .u8 g5) := e6.at_ 5
    obtain ⟨xx6_0, xx6_1, xx6_2, xx6_3, xx6_4, xx6_5, xx6_6, xx6_7, xx6_8⟩ := x6.x9
    obtain ⟨yx6_0, yx6_1, yx6_2, yx6_3, yx6_4, yx6_5, yx6_6, yx6_7, yx6_8⟩ := x6.y9
    have x7 : Cells (W6.setCell ⟨w1.heap.size + 1, 5, none⟩ (.int .i64 1)) (w1.heap.size + 1) #[.int .u8 6, .int .u32 h5, .int .u16 g0, .int .u32 h6, .int .u16 g1, .int .i64 1, .int .u8 g5, .bool false, .int .u8 h3] 40 := x6.set_ 5 (.int .i64 1)
    have d7 := d6.other HN.out 5 (.int .i64 1)
    have b7 : Below w.heap.size w (W6.setCell ⟨w1.heap.size + 1, 5, none⟩ (.int .i64 1)) := Below.setCell b6 (by have := HL.out; dsimp only; omega) _
    obtain ⟨xd7_0, xd7_1, xd7_2, xd7_3, xd7_4, xd7_5, xd7_6, xd7_7, xd7_8⟩ := d7.x9
    obtain ⟨yd7_0, yd7_1, yd7_2, yd7_3, yd7_4, yd7_5, yd7_6, yd7_7, yd7_8⟩ := d7.y9
    obtain ⟨xx7_0, xx7_1, xx7_2, xx7_3, xx7_4, xx7_5, xx7_6, xx7_7, xx7_8⟩ := x7.x9
    clear x6 d6 b6 e6 HX6 HD6 HB6 E4 X4 D4 B5 fS x4 e4
    have HD7 := hide d7; have HB7 := hide b7; have HX7 := hide x7
    clear d7 b7 x7
    go_wp2_with fail
    have d7 := HD7.out; have b7 := HB7.out
    have hle := HL.out
    generalize (W6.setCell ⟨w1.heap.size + 1, 5, none⟩ (.int .i64 1)) = W7 at *
    have r5 := (Cells.put9 d7 (.int .u8 6) (.int .u32 h5) (.int .u16 g0) (.int .u32 h6) (.int .u16 g1) (.int .i64 1) (.int .u8 g5) (.bool false) (.int .u8 h3))
    have b5 := (Below.put9 b7 (b := w.heap.size) (by first | exact Nat.le_refl _ | omega) (.int .u8 6) (.int .u32 h5) (.int .u16 g0) (.int .u32 h6) (.int .u16 g1) (.int .i64 1) (.int .u8 g5) (.bool false) (.int .u8 h3))
    have HR5 := hide r5; have HB5 := hide b5
    clear r5 b5 d7
    generalize (((((((((W7.setCell ⟨w.heap.size, 0, none⟩ (.int .u8 6)).setCell ⟨w.heap.size, 1, none⟩ (.int .u32 h5)).setCell ⟨w.heap.size, 2, none⟩ (.int .u16 g0)).setCell ⟨w.heap.size, 3, none⟩ (.int .u32 h6)).setCell ⟨w.heap.size, 4, none⟩ (.int .u16 g1)).setCell ⟨w.heap.size, 5, none⟩ (.int .i64 1)).setCell ⟨w.heap.size, 6, none⟩ (.int .u8 g5)).setCell ⟨w.heap.size, 7, none⟩ (.bool false)).setCell ⟨w.heap.size, 8, none⟩ (.int .u8 h3)) = W5 at *
    have r5 := HR5.out; have b5 := HB5.out
    clear HR5 HB5
    obtain ⟨xr5_0, xr5_1, xr5_2, xr5_3, xr5_4, xr5_5, xr5_6, xr5_7, xr5_8⟩ := r5.x9
    (try simp only [Exit.inBlock, Exit.then]); refine bodyPost_ret (by simp [results, Tryz.results37, go_sem, *]; try rfl) rfl ?_
    first | exact ⟨rfl, b5⟩ | exact ⟨rfl, b5.drew⟩

set_option maxRecDepth 100000 in
set_option maxHeartbeats 4000000 in
theorem o_Of_tcp_flow (s l : ByteArray) (w : World) (h0 h1 h3 h5 h6 : Int) (h2 : Bool) (h7 : ByteArray) (g0 g1 g2 g3 g4 g5 g6 g7 g8 : Int) (g9 r : ByteArray) (hk : bits .and .u8 g5 23 ≠ 2)
    (c1 : ∀ W, Calls Tryz.prog 81 #[.string s] W (Ret (.tuple #[.agg #[.int .u8 h0, .int .u16 h1, .bool h2, .int .u8 h3, .int .u8 6, .int .u32 h5, .int .u32 h6, .string h7], .string l, .int .i64 0]) W))
    (c2 : ∀ W, Calls Tryz.prog 82 #[.string l] W (Ret (.tuple #[.agg #[.int .u16 g0, .int .u16 g1, .int .u32 g2, .int .u32 g3, .int .u8 g4, .int .u8 g5, .int .u16 g6, .int .u16 g7, .int .u16 g8, .string g9], .string r, .bool true]) W)) :
    Calls Tryz.prog 37 #[.string s] w (Ret (.tuple #[.agg #[.int .u8 6, .int .u32 h5, .int .u16 g0, .int .u32 h6, .int .u16 g1, .int .i64 2, .int .u8 g5, .bool false, .int .u8 h3], .int .i64 0]) w) := by
  have q1 : (bits .and .u8 g5 23 == 2) = false := by simpa using hk
  clear hk
  have C1 := hide c1; have C2 := hide c2
  clear c1 c2
  go_enter Tryz.func37, Tryz.ntmps37
  have d0 := Cells.new w #[.int .u8 0, .int .u32 0, .int .u16 0, .int .u32 0, .int .u16 0, .int .i64 0, .int .u8 0, .bool false, .int .u8 0] 40
  go_wp2_with fail
  (with_reducible refine (C1.out _).mono ?_)
  rintro e w1 ⟨rfl, b1⟩
  have d1 := Cells.below b1 d0
  have e1 := Cells.new w1 #[.int .u8 h0, .int .u16 h1, .bool h2, .int .u8 h3, .int .u8 6, .int .u32 h5, .int .u32 h6, .string h7] 160
  obtain ⟨xe1_0, xe1_1, xe1_2, xe1_3, xe1_4, xe1_5, xe1_6, xe1_7⟩ := e1.x8
  have d3 := Cells.alloc (Cells.alloc d1 (.cells #[.int .u8 h0, .int .u16 h1, .bool h2, .int .u8 h3, .int .u8 6, .int .u32 h5, .int .u32 h6, .string h7] 160)) (.cells #[.int .u8 6, .int .u32 h5, .int .u16 0, .int .u32 h6, .int .u16 0, .int .i64 2, .int .u8 0, .bool false, .int .u8 h3] 40)
  have e3 := Cells.alloc e1 (.cells #[.int .u8 6, .int .u32 h5, .int .u16 0, .int .u32 h6, .int .u16 0, .int .i64 2, .int .u8 0, .bool false, .int .u8 h3] 40)
  have xe3_4 : (((w1.alloc (.cells #[.int .u8 h0, .int .u16 h1, .bool h2, .int .u8 h3, .int .u8 6, .int .u32 h5, .int .u32 h6, .string h7] 160)).alloc (.cells #[.int .u8 6, .int .u32 h5, .int .u16 0, .int .u32 h6, .int .u16 0, .int .i64 2, .int .u8 0, .bool false, .int .u8 h3] 40))).cell? ⟨w1.heap.size, 4, none⟩ = some (.int .u8 6) := e3.at_ 4
  have x3 : Cells ((w1.alloc (.cells #[.int .u8 h0, .int .u16 h1, .bool h2, .int .u8 h3, .int .u8 6, .int .u32 h5, .int .u32 h6, .string h7] 160)).alloc (.cells #[.int .u8 6, .int .u32 h5, .int .u16 0, .int .u32 h6, .int .u16 0, .int .i64 2, .int .u8 0, .bool false, .int .u8 h3] 40)) (w1.heap.size + 1) #[.int .u8 6, .int .u32 h5, .int .u16 0, .int .u32 h6, .int .u16 0, .int .i64 2, .int .u8 0, .bool false, .int .u8 h3] 40 := by
    have := Cells.new (w1.alloc (.cells #[.int .u8 h0, .int .u16 h1, .bool h2, .int .u8 h3, .int .u8 6, .int .u32 h5, .int .u32 h6, .string h7] 160)) #[.int .u8 6, .int .u32 h5, .int .u16 0, .int .u32 h6, .int .u16 0, .int .i64 2, .int .u8 0, .bool false, .int .u8 h3] 40
    rw [show (w1.alloc (.cells #[.int .u8 h0, .int .u16 h1, .bool h2, .int .u8 h3, .int .u8 6, .int .u32 h5, .int .u32 h6, .string h7] 160)).heap.size = w1.heap.size + 1 from by simp] at this
    exact this
  have b3 : Below w.heap.size w ((w1.alloc (.cells #[.int .u8 h0, .int .u16 h1, .bool h2, .int .u8 h3, .int .u8 6, .int .u32 h5, .int .u32 h6, .string h7] 160)).alloc (.cells #[.int .u8 6, .int .u32 h5, .int .u16 0, .int .u32 h6, .int .u16 0, .int .i64 2, .int .u8 0, .bool false, .int .u8 h3] 40)) := bstep (bstep (bstep (fresh_below _ _) b1) (fresh_below _ _)) (fresh_below _ _)
  have hlt : w.heap.size ≠ w1.heap.size + 1 := by have := d1.lt; omega
  have hle : w.heap.size ≤ w1.heap.size + 1 := by have := d1.lt; omega
  have D3 := hide d3; have X3 := hide x3; have B3 := hide b3; have HN := hide hlt; have HL := hide hle
  clear d0 d1 e1 d3 e3 x3 b3 b1 hlt hle
  go_wp2_with fail
  (with_reducible refine (C2.out _).mono ?_)
  rintro e w4 ⟨rfl, b4⟩
  have d4 := Cells.alloc (Cells.below b4 D3.out) (.cells #[.int .u16 g0, .int .u16 g1, .int .u32 g2, .int .u32 g3, .int .u8 g4, .int .u8 g5, .int .u16 g6, .int .u16 g7, .int .u16 g8, .string g9] 180)
  have x4 := Cells.alloc (Cells.below b4 X3.out) (.cells #[.int .u16 g0, .int .u16 g1, .int .u32 g2, .int .u32 g3, .int .u8 g4, .int .u8 g5, .int .u16 g6, .int .u16 g7, .int .u16 g8, .string g9] 180)
  have e4 := Cells.new w4 #[.int .u16 g0, .int .u16 g1, .int .u32 g2, .int .u32 g3, .int .u8 g4, .int .u8 g5, .int .u16 g6, .int .u16 g7, .int .u16 g8, .string g9] 180
  have b5 : Below w.heap.size w (w4.alloc (.cells #[.int .u16 g0, .int .u16 g1, .int .u32 g2, .int .u32 g3, .int .u8 g4, .int .u8 g5, .int .u16 g6, .int .u16 g7, .int .u16 g8, .string g9] 180)) := bstep (bstep B3.out b4) (fresh_below _ _)
  have hgw : w4.heap.size ≠ w.heap.size := by have := (Cells.below b4 D3.out).lt; omega
  have hgx : w4.heap.size ≠ w1.heap.size + 1 := by have := (Cells.below b4 X3.out).lt; omega
  have HGW := hide hgw; have HGX := hide hgx
  clear D3 X3 B3 b4 C1 C2 hgw hgx
  obtain ⟨xx4_0, xx4_1, xx4_2, xx4_3, xx4_4, xx4_5, xx4_6, xx4_7, xx4_8⟩ := x4.x9
  obtain ⟨yx4_0, yx4_1, yx4_2, yx4_3, yx4_4, yx4_5, yx4_6, yx4_7, yx4_8⟩ := x4.y9
  obtain ⟨xe4_0, xe4_1, xe4_2, xe4_3, xe4_4, xe4_5, xe4_6, xe4_7, xe4_8, xe4_9⟩ := e4.x10
  have fS := hide (fun (X : World) (hX : Cells X w4.heap.size #[.int .u16 g0, .int .u16 g1, .int .u32 g2, .int .u32 g3, .int .u8 g4, .int .u8 g5, .int .u16 g6, .int .u16 g7, .int .u16 g8, .string g9] 180) => (show World.cell? X ⟨w4.heap.size, 0, none⟩ = some (.int .u16 g0) ∧ World.cell? X ⟨w4.heap.size, 1, none⟩ = some (.int .u16 g1) ∧ World.cell? X ⟨w4.heap.size, 5, none⟩ = some (.int .u8 g5) from ⟨hX.at_ 0, hX.at_ 1, hX.at_ 5⟩))
  have E4 := hide e4; have X4 := hide x4; have D4 := hide d4; have B5 := hide b5
  clear d4 b5
  go_wp2_with fail
  generalize (w4.alloc (.cells #[.int .u16 g0, .int .u16 g1, .int .u32 g2, .int .u32 g3, .int .u8 g4, .int .u8 g5, .int .u16 g6, .int .u16 g7, .int .u16 g8, .string g9] 180)) = w5 at *
  go_region_held3 (fun zW => World.cell? zW ⟨w4.heap.size, 0, none⟩ = some (.int .u16 g0) ∧ World.cell? zW ⟨w4.heap.size, 1, none⟩ = some (.int .u16 g1) ∧ World.cell? zW ⟨w4.heap.size, 5, none⟩ = some (.int .u8 g5)) (((try dsimp only); with_reducible refine fS.out _ ?_; (repeat' (first | with_reducible exact E4.out | with_reducible refine Cells.drew ?_ | with_reducible refine Cells.other ?_ HGX.out _ _))))
    (fail)
  all_goals
    generalize hW6 : World.setCell _ _ _ = W6
    have x6 : Cells W6 (w1.heap.size + 1) #[.int .u8 6, .int .u32 h5, .int .u16 g0, .int .u32 h6, .int .u16 g1, .int .i64 2, .int .u8 g5, .bool false, .int .u8 h3] 40 := by rw [← hW6]; (first | exact (((X4.out.drew.set_ 2 (.int .u16 g0)).set_ 4 (.int .u16 g1)).set_ 6 (.int .u8 g5)) | exact (((X4.out.drew.set_ 2 (.int .u16 g0)).set_ 6 (.int .u8 g5)).set_ 4 (.int .u16 g1)) | exact (((X4.out.drew.set_ 4 (.int .u16 g1)).set_ 2 (.int .u16 g0)).set_ 6 (.int .u8 g5)) | exact (((X4.out.drew.set_ 4 (.int .u16 g1)).set_ 6 (.int .u8 g5)).set_ 2 (.int .u16 g0)) | exact (((X4.out.drew.set_ 6 (.int .u8 g5)).set_ 2 (.int .u16 g0)).set_ 4 (.int .u16 g1)) | exact (((X4.out.drew.set_ 6 (.int .u8 g5)).set_ 4 (.int .u16 g1)).set_ 2 (.int .u16 g0)))
    have e6 : Cells W6 w4.heap.size #[.int .u16 g0, .int .u16 g1, .int .u32 g2, .int .u32 g3, .int .u8 g4, .int .u8 g5, .int .u16 g6, .int .u16 g7, .int .u16 g8, .string g9] 180 := by rw [← hW6]; (repeat' (first | with_reducible exact E4.out | with_reducible refine Cells.drew ?_ | with_reducible refine Cells.other ?_ HGX.out _ _))
    have d6 : Cells W6 w.heap.size #[.int .u8 0, .int .u32 0, .int .u16 0, .int .u32 0, .int .u16 0, .int .i64 0, .int .u8 0, .bool false, .int .u8 0] 40 := by rw [← hW6]; (repeat' (first | with_reducible exact D4.out | with_reducible refine Cells.drew ?_ | with_reducible refine Cells.other ?_ HN.out _ _))
    have b6 : Below w.heap.size w W6 := by rw [← hW6]; (repeat' (first | with_reducible exact B5.out | with_reducible refine Below.setCell ?_ (by have := HL.out; dsimp only; omega) _ | with_reducible refine Below.drew ?_))
    clear hW6
    have HX6 := hide x6; have HD6 := hide d6; have HB6 := hide b6
    have xe6_5 : W6.cell? ⟨w4.heap.size, 5, none⟩ = some (.int .u8 g5) := e6.at_ 5
    obtain ⟨xx6_0, xx6_1, xx6_2, xx6_3, xx6_4, xx6_5, xx6_6, xx6_7, xx6_8⟩ := x6.x9
    obtain ⟨yx6_0, yx6_1, yx6_2, yx6_3, yx6_4, yx6_5, yx6_6, yx6_7, yx6_8⟩ := x6.y9
    obtain ⟨xd6_0, xd6_1, xd6_2, xd6_3, xd6_4, xd6_5, xd6_6, xd6_7, xd6_8⟩ := d6.x9
    obtain ⟨yd6_0, yd6_1, yd6_2, yd6_3, yd6_4, yd6_5, yd6_6, yd6_7, yd6_8⟩ := d6.y9
    clear x6 d6 b6 e6 HX6 E4 X4 D4 B5 fS x4 e4
    go_wp2_with fail
    have d7 := HD6.out; have b7 := HB6.out
    have r5 := (Cells.put9 d7 (.int .u8 6) (.int .u32 h5) (.int .u16 g0) (.int .u32 h6) (.int .u16 g1) (.int .i64 2) (.int .u8 g5) (.bool false) (.int .u8 h3))
    have b5 := (Below.put9 b7 (b := w.heap.size) (by first | exact Nat.le_refl _ | omega) (.int .u8 6) (.int .u32 h5) (.int .u16 g0) (.int .u32 h6) (.int .u16 g1) (.int .i64 2) (.int .u8 g5) (.bool false) (.int .u8 h3))
    have HR5 := hide r5; have HB5 := hide b5
    clear r5 b5 d7
    generalize (((((((((W6.setCell ⟨w.heap.size, 0, none⟩ (.int .u8 6)).setCell ⟨w.heap.size, 1, none⟩ (.int .u32 h5)).setCell ⟨w.heap.size, 2, none⟩ (.int .u16 g0)).setCell ⟨w.heap.size, 3, none⟩ (.int .u32 h6)).setCell ⟨w.heap.size, 4, none⟩ (.int .u16 g1)).setCell ⟨w.heap.size, 5, none⟩ (.int .i64 2)).setCell ⟨w.heap.size, 6, none⟩ (.int .u8 g5)).setCell ⟨w.heap.size, 7, none⟩ (.bool false)).setCell ⟨w.heap.size, 8, none⟩ (.int .u8 h3)) = W5 at *
    have r5 := HR5.out; have b5 := HB5.out
    clear HR5 HB5
    obtain ⟨xr5_0, xr5_1, xr5_2, xr5_3, xr5_4, xr5_5, xr5_6, xr5_7, xr5_8⟩ := r5.x9
    (try simp only [Exit.inBlock, Exit.then]); refine bodyPost_ret (by simp [results, Tryz.results37, go_sem, *]; try rfl) rfl ?_
    first | exact ⟨rfl, b5⟩ | exact ⟨rfl, b5.drew⟩
end Go.Proofs.YtilfcikhipadpaaGreatDoor
end

section
/- The document's answer for what is seen of a packet (porterref08.Of), second half, over this program. -/
set_option linter.unusedVariables false
set_option linter.unusedSimpArgs false
namespace Go.Proofs.YtilfcikhipadpaaGreatDoor
open Go.RowKit
attribute [local go_sem] Oper.semAt_some

set_option maxRecDepth 100000 in
set_option maxHeartbeats 4000000 in
theorem o_Of_udp_no (s l : ByteArray) (w : World) (h0 h1 h3 h5 h6 : Int) (h2 : Bool) (h7 : ByteArray) (r : ByteArray)
    (c1 : ∀ W, Calls Tryz.prog 81 #[.string s] W (Ret (.tuple #[.agg #[.int .u8 h0, .int .u16 h1, .bool h2, .int .u8 h3, .int .u8 17, .int .u32 h5, .int .u32 h6, .string h7], .string l, .int .i64 0]) W))
    (c2 : ∀ W, Calls Tryz.prog 83 #[.string l] W (Ret (.tuple #[.agg #[.int .u16 0, .int .u16 0, .int .u16 0, .int .u16 0], .string r, .bool false]) W)) :
    Calls Tryz.prog 37 #[.string s] w (Ret (.tuple #[.agg #[.int .u8 0, .int .u32 0, .int .u16 0, .int .u32 0, .int .u16 0, .int .i64 0, .int .u8 0, .bool false, .int .u8 0], .int .i64 7]) w) := by
  have C1 := hide c1; have C2 := hide c2
  clear c1 c2
  go_enter Tryz.func37, Tryz.ntmps37
  have d0 := Cells.new w #[.int .u8 0, .int .u32 0, .int .u16 0, .int .u32 0, .int .u16 0, .int .i64 0, .int .u8 0, .bool false, .int .u8 0] 40
  go_wp2_with fail
  (with_reducible refine (C1.out _).mono ?_)
  rintro e w1 ⟨rfl, b1⟩
  have d1 := Cells.below b1 d0
  have e1 := Cells.new w1 #[.int .u8 h0, .int .u16 h1, .bool h2, .int .u8 h3, .int .u8 17, .int .u32 h5, .int .u32 h6, .string h7] 160
  obtain ⟨xe1_0, xe1_1, xe1_2, xe1_3, xe1_4, xe1_5, xe1_6, xe1_7⟩ := e1.x8
  have d3 := Cells.alloc (Cells.alloc d1 (.cells #[.int .u8 h0, .int .u16 h1, .bool h2, .int .u8 h3, .int .u8 17, .int .u32 h5, .int .u32 h6, .string h7] 160)) (.cells #[.int .u8 17, .int .u32 h5, .int .u16 0, .int .u32 h6, .int .u16 0, .int .i64 2, .int .u8 0, .bool false, .int .u8 h3] 40)
  have e3 := Cells.alloc e1 (.cells #[.int .u8 17, .int .u32 h5, .int .u16 0, .int .u32 h6, .int .u16 0, .int .i64 2, .int .u8 0, .bool false, .int .u8 h3] 40)
  have xe3_4 : (((w1.alloc (.cells #[.int .u8 h0, .int .u16 h1, .bool h2, .int .u8 h3, .int .u8 17, .int .u32 h5, .int .u32 h6, .string h7] 160)).alloc (.cells #[.int .u8 17, .int .u32 h5, .int .u16 0, .int .u32 h6, .int .u16 0, .int .i64 2, .int .u8 0, .bool false, .int .u8 h3] 40))).cell? ⟨w1.heap.size, 4, none⟩ = some (.int .u8 17) := e3.at_ 4
  have x3 : Cells ((w1.alloc (.cells #[.int .u8 h0, .int .u16 h1, .bool h2, .int .u8 h3, .int .u8 17, .int .u32 h5, .int .u32 h6, .string h7] 160)).alloc (.cells #[.int .u8 17, .int .u32 h5, .int .u16 0, .int .u32 h6, .int .u16 0, .int .i64 2, .int .u8 0, .bool false, .int .u8 h3] 40)) (w1.heap.size + 1) #[.int .u8 17, .int .u32 h5, .int .u16 0, .int .u32 h6, .int .u16 0, .int .i64 2, .int .u8 0, .bool false, .int .u8 h3] 40 := by
    have := Cells.new (w1.alloc (.cells #[.int .u8 h0, .int .u16 h1, .bool h2, .int .u8 h3, .int .u8 17, .int .u32 h5, .int .u32 h6, .string h7] 160)) #[.int .u8 17, .int .u32 h5, .int .u16 0, .int .u32 h6, .int .u16 0, .int .i64 2, .int .u8 0, .bool false, .int .u8 h3] 40
    rw [show (w1.alloc (.cells #[.int .u8 h0, .int .u16 h1, .bool h2, .int .u8 h3, .int .u8 17, .int .u32 h5, .int .u32 h6, .string h7] 160)).heap.size = w1.heap.size + 1 from by simp] at this
    exact this
  have b3 : Below w.heap.size w ((w1.alloc (.cells #[.int .u8 h0, .int .u16 h1, .bool h2, .int .u8 h3, .int .u8 17, .int .u32 h5, .int .u32 h6, .string h7] 160)).alloc (.cells #[.int .u8 17, .int .u32 h5, .int .u16 0, .int .u32 h6, .int .u16 0, .int .i64 2, .int .u8 0, .bool false, .int .u8 h3] 40)) := bstep (bstep (bstep (fresh_below _ _) b1) (fresh_below _ _)) (fresh_below _ _)
  have hlt : w.heap.size ≠ w1.heap.size + 1 := by have := d1.lt; omega
  have hle : w.heap.size ≤ w1.heap.size + 1 := by have := d1.lt; omega
  have D3 := hide d3; have X3 := hide x3; have B3 := hide b3; have HN := hide hlt; have HL := hide hle
  clear d0 d1 e1 d3 e3 x3 b3 b1 hlt hle
  go_wp2_with fail
  (with_reducible refine (C2.out _).mono ?_)
  rintro e w4 ⟨rfl, b4⟩
  have d4 := Cells.alloc (Cells.below b4 D3.out) (.cells #[.int .u16 0, .int .u16 0, .int .u16 0, .int .u16 0] 184)
  have x4 := Cells.alloc (Cells.below b4 X3.out) (.cells #[.int .u16 0, .int .u16 0, .int .u16 0, .int .u16 0] 184)
  have e4 := Cells.new w4 #[.int .u16 0, .int .u16 0, .int .u16 0, .int .u16 0] 184
  have b5 : Below w.heap.size w (w4.alloc (.cells #[.int .u16 0, .int .u16 0, .int .u16 0, .int .u16 0] 184)) := bstep (bstep B3.out b4) (fresh_below _ _)
  have hgw : w4.heap.size ≠ w.heap.size := by have := (Cells.below b4 D3.out).lt; omega
  have hgx : w4.heap.size ≠ w1.heap.size + 1 := by have := (Cells.below b4 X3.out).lt; omega
  have HGW := hide hgw; have HGX := hide hgx
  clear D3 X3 B3 b4 C1 C2 hgw hgx
  obtain ⟨xd4_0, xd4_1, xd4_2, xd4_3, xd4_4, xd4_5, xd4_6, xd4_7, xd4_8⟩ := d4.x9
  obtain ⟨yd4_0, yd4_1, yd4_2, yd4_3, yd4_4, yd4_5, yd4_6, yd4_7, yd4_8⟩ := d4.y9
  go_wp2_with fail
  generalize (w4.alloc (.cells #[.int .u16 0, .int .u16 0, .int .u16 0, .int .u16 0] 184)) = W at *
  have r5 := (Cells.put9 d4 (.int .u8 0) (.int .u32 0) (.int .u16 0) (.int .u32 0) (.int .u16 0) (.int .i64 0) (.int .u8 0) (.bool false) (.int .u8 0))
  have b5 := (Below.put9 b5 (b := w.heap.size) (by first | exact Nat.le_refl _ | omega) (.int .u8 0) (.int .u32 0) (.int .u16 0) (.int .u32 0) (.int .u16 0) (.int .i64 0) (.int .u8 0) (.bool false) (.int .u8 0))
  have HR5 := hide r5; have HB5 := hide b5
  clear r5 b5 d4
  generalize (((((((((W.setCell ⟨w.heap.size, 0, none⟩ (.int .u8 0)).setCell ⟨w.heap.size, 1, none⟩ (.int .u32 0)).setCell ⟨w.heap.size, 2, none⟩ (.int .u16 0)).setCell ⟨w.heap.size, 3, none⟩ (.int .u32 0)).setCell ⟨w.heap.size, 4, none⟩ (.int .u16 0)).setCell ⟨w.heap.size, 5, none⟩ (.int .i64 0)).setCell ⟨w.heap.size, 6, none⟩ (.int .u8 0)).setCell ⟨w.heap.size, 7, none⟩ (.bool false)).setCell ⟨w.heap.size, 8, none⟩ (.int .u8 0)) = W5 at *
  have r5 := HR5.out; have b5 := HB5.out
  clear HR5 HB5
  obtain ⟨xr5_0, xr5_1, xr5_2, xr5_3, xr5_4, xr5_5, xr5_6, xr5_7, xr5_8⟩ := r5.x9
  (try simp only [Exit.inBlock, Exit.then]); refine bodyPost_ret (by simp [results, Tryz.results37, go_sem, *]; try rfl) rfl ?_
  first | exact ⟨rfl, b5⟩ | exact ⟨rfl, b5.drew⟩

set_option maxRecDepth 100000 in
set_option maxHeartbeats 4000000 in
theorem o_Of_udp_yes (s l : ByteArray) (w : World) (h0 h1 h3 h5 h6 : Int) (h2 : Bool) (h7 : ByteArray) (g0 g1 g2 g3 : Int) (r : ByteArray)
    (c1 : ∀ W, Calls Tryz.prog 81 #[.string s] W (Ret (.tuple #[.agg #[.int .u8 h0, .int .u16 h1, .bool h2, .int .u8 h3, .int .u8 17, .int .u32 h5, .int .u32 h6, .string h7], .string l, .int .i64 0]) W))
    (c2 : ∀ W, Calls Tryz.prog 83 #[.string l] W (Ret (.tuple #[.agg #[.int .u16 g0, .int .u16 g1, .int .u16 g2, .int .u16 g3], .string r, .bool true]) W)) :
    Calls Tryz.prog 37 #[.string s] w (Ret (.tuple #[.agg #[.int .u8 17, .int .u32 h5, .int .u16 g0, .int .u32 h6, .int .u16 g1, .int .i64 2, .int .u8 0, .bool false, .int .u8 h3], .int .i64 0]) w) := by
  have C1 := hide c1; have C2 := hide c2
  clear c1 c2
  go_enter Tryz.func37, Tryz.ntmps37
  have d0 := Cells.new w #[.int .u8 0, .int .u32 0, .int .u16 0, .int .u32 0, .int .u16 0, .int .i64 0, .int .u8 0, .bool false, .int .u8 0] 40
  go_wp2_with fail
  (with_reducible refine (C1.out _).mono ?_)
  rintro e w1 ⟨rfl, b1⟩
  have d1 := Cells.below b1 d0
  have e1 := Cells.new w1 #[.int .u8 h0, .int .u16 h1, .bool h2, .int .u8 h3, .int .u8 17, .int .u32 h5, .int .u32 h6, .string h7] 160
  obtain ⟨xe1_0, xe1_1, xe1_2, xe1_3, xe1_4, xe1_5, xe1_6, xe1_7⟩ := e1.x8
  have d3 := Cells.alloc (Cells.alloc d1 (.cells #[.int .u8 h0, .int .u16 h1, .bool h2, .int .u8 h3, .int .u8 17, .int .u32 h5, .int .u32 h6, .string h7] 160)) (.cells #[.int .u8 17, .int .u32 h5, .int .u16 0, .int .u32 h6, .int .u16 0, .int .i64 2, .int .u8 0, .bool false, .int .u8 h3] 40)
  have e3 := Cells.alloc e1 (.cells #[.int .u8 17, .int .u32 h5, .int .u16 0, .int .u32 h6, .int .u16 0, .int .i64 2, .int .u8 0, .bool false, .int .u8 h3] 40)
  have xe3_4 : (((w1.alloc (.cells #[.int .u8 h0, .int .u16 h1, .bool h2, .int .u8 h3, .int .u8 17, .int .u32 h5, .int .u32 h6, .string h7] 160)).alloc (.cells #[.int .u8 17, .int .u32 h5, .int .u16 0, .int .u32 h6, .int .u16 0, .int .i64 2, .int .u8 0, .bool false, .int .u8 h3] 40))).cell? ⟨w1.heap.size, 4, none⟩ = some (.int .u8 17) := e3.at_ 4
  have x3 : Cells ((w1.alloc (.cells #[.int .u8 h0, .int .u16 h1, .bool h2, .int .u8 h3, .int .u8 17, .int .u32 h5, .int .u32 h6, .string h7] 160)).alloc (.cells #[.int .u8 17, .int .u32 h5, .int .u16 0, .int .u32 h6, .int .u16 0, .int .i64 2, .int .u8 0, .bool false, .int .u8 h3] 40)) (w1.heap.size + 1) #[.int .u8 17, .int .u32 h5, .int .u16 0, .int .u32 h6, .int .u16 0, .int .i64 2, .int .u8 0, .bool false, .int .u8 h3] 40 := by
    have := Cells.new (w1.alloc (.cells #[.int .u8 h0, .int .u16 h1, .bool h2, .int .u8 h3, .int .u8 17, .int .u32 h5, .int .u32 h6, .string h7] 160)) #[.int .u8 17, .int .u32 h5, .int .u16 0, .int .u32 h6, .int .u16 0, .int .i64 2, .int .u8 0, .bool false, .int .u8 h3] 40
    rw [show (w1.alloc (.cells #[.int .u8 h0, .int .u16 h1, .bool h2, .int .u8 h3, .int .u8 17, .int .u32 h5, .int .u32 h6, .string h7] 160)).heap.size = w1.heap.size + 1 from by simp] at this
    exact this
  have b3 : Below w.heap.size w ((w1.alloc (.cells #[.int .u8 h0, .int .u16 h1, .bool h2, .int .u8 h3, .int .u8 17, .int .u32 h5, .int .u32 h6, .string h7] 160)).alloc (.cells #[.int .u8 17, .int .u32 h5, .int .u16 0, .int .u32 h6, .int .u16 0, .int .i64 2, .int .u8 0, .bool false, .int .u8 h3] 40)) := bstep (bstep (bstep (fresh_below _ _) b1) (fresh_below _ _)) (fresh_below _ _)
  have hlt : w.heap.size ≠ w1.heap.size + 1 := by have := d1.lt; omega
  have hle : w.heap.size ≤ w1.heap.size + 1 := by have := d1.lt; omega
  have D3 := hide d3; have X3 := hide x3; have B3 := hide b3; have HN := hide hlt; have HL := hide hle
  clear d0 d1 e1 d3 e3 x3 b3 b1 hlt hle
  go_wp2_with fail
  (with_reducible refine (C2.out _).mono ?_)
  rintro e w4 ⟨rfl, b4⟩
  have d4 := Cells.alloc (Cells.below b4 D3.out) (.cells #[.int .u16 g0, .int .u16 g1, .int .u16 g2, .int .u16 g3] 184)
  have x4 := Cells.alloc (Cells.below b4 X3.out) (.cells #[.int .u16 g0, .int .u16 g1, .int .u16 g2, .int .u16 g3] 184)
  have e4 := Cells.new w4 #[.int .u16 g0, .int .u16 g1, .int .u16 g2, .int .u16 g3] 184
  have b5 : Below w.heap.size w (w4.alloc (.cells #[.int .u16 g0, .int .u16 g1, .int .u16 g2, .int .u16 g3] 184)) := bstep (bstep B3.out b4) (fresh_below _ _)
  have hgw : w4.heap.size ≠ w.heap.size := by have := (Cells.below b4 D3.out).lt; omega
  have hgx : w4.heap.size ≠ w1.heap.size + 1 := by have := (Cells.below b4 X3.out).lt; omega
  have HGW := hide hgw; have HGX := hide hgx
  clear D3 X3 B3 b4 C1 C2 hgw hgx
  obtain ⟨xx4_0, xx4_1, xx4_2, xx4_3, xx4_4, xx4_5, xx4_6, xx4_7, xx4_8⟩ := x4.x9
  obtain ⟨yx4_0, yx4_1, yx4_2, yx4_3, yx4_4, yx4_5, yx4_6, yx4_7, yx4_8⟩ := x4.y9
  obtain ⟨xe4_0, xe4_1, xe4_2, xe4_3⟩ := e4.x4
  have fS := hide (fun (X : World) (hX : Cells X w4.heap.size #[.int .u16 g0, .int .u16 g1, .int .u16 g2, .int .u16 g3] 184) => (show World.cell? X ⟨w4.heap.size, 0, none⟩ = some (.int .u16 g0) ∧ World.cell? X ⟨w4.heap.size, 1, none⟩ = some (.int .u16 g1) from ⟨hX.at_ 0, hX.at_ 1⟩))
  have E4 := hide e4; have X4 := hide x4; have D4 := hide d4; have B5 := hide b5
  clear d4 b5
  go_wp2_with fail
  generalize (w4.alloc (.cells #[.int .u16 g0, .int .u16 g1, .int .u16 g2, .int .u16 g3] 184)) = w5 at *
  go_region_held3 (fun zW => World.cell? zW ⟨w4.heap.size, 0, none⟩ = some (.int .u16 g0) ∧ World.cell? zW ⟨w4.heap.size, 1, none⟩ = some (.int .u16 g1)) (((try dsimp only); with_reducible refine fS.out _ ?_; (repeat' (first | with_reducible exact E4.out | with_reducible refine Cells.drew ?_ | with_reducible refine Cells.other ?_ HGX.out _ _))))
    (fail)
  all_goals
    generalize hW6 : World.setCell _ _ _ = W6
    have x6 : Cells W6 (w1.heap.size + 1) #[.int .u8 17, .int .u32 h5, .int .u16 g0, .int .u32 h6, .int .u16 g1, .int .i64 2, .int .u8 0, .bool false, .int .u8 h3] 40 := by rw [← hW6]; (first | exact ((X4.out.drew.set_ 2 (.int .u16 g0)).set_ 4 (.int .u16 g1)) | exact ((X4.out.drew.set_ 4 (.int .u16 g1)).set_ 2 (.int .u16 g0)))
    have e6 : Cells W6 w4.heap.size #[.int .u16 g0, .int .u16 g1, .int .u16 g2, .int .u16 g3] 184 := by rw [← hW6]; (repeat' (first | with_reducible exact E4.out | with_reducible refine Cells.drew ?_ | with_reducible refine Cells.other ?_ HGX.out _ _))
    have d6 : Cells W6 w.heap.size #[.int .u8 0, .int .u32 0, .int .u16 0, .int .u32 0, .int .u16 0, .int .i64 0, .int .u8 0, .bool false, .int .u8 0] 40 := by rw [← hW6]; (repeat' (first | with_reducible exact D4.out | with_reducible refine Cells.drew ?_ | with_reducible refine Cells.other ?_ HN.out _ _))
    have b6 : Below w.heap.size w W6 := by rw [← hW6]; (repeat' (first | with_reducible exact B5.out | with_reducible refine Below.setCell ?_ (by have := HL.out; dsimp only; omega) _ | with_reducible refine Below.drew ?_))
    clear hW6
    have HX6 := hide x6; have HD6 := hide d6; have HB6 := hide b6
    obtain ⟨xx6_0, xx6_1, xx6_2, xx6_3, xx6_4, xx6_5, xx6_6, xx6_7, xx6_8⟩ := x6.x9
    obtain ⟨yx6_0, yx6_1, yx6_2, yx6_3, yx6_4, yx6_5, yx6_6, yx6_7, yx6_8⟩ := x6.y9
    obtain ⟨xd6_0, xd6_1, xd6_2, xd6_3, xd6_4, xd6_5, xd6_6, xd6_7, xd6_8⟩ := d6.x9
    obtain ⟨yd6_0, yd6_1, yd6_2, yd6_3, yd6_4, yd6_5, yd6_6, yd6_7, yd6_8⟩ := d6.y9
    clear x6 d6 b6 e6 HX6 E4 X4 D4 B5 fS x4 e4
    go_wp2_with fail
    have d7 := HD6.out; have b7 := HB6.out
    have r5 := (Cells.put9 d7 (.int .u8 17) (.int .u32 h5) (.int .u16 g0) (.int .u32 h6) (.int .u16 g1) (.int .i64 2) (.int .u8 0) (.bool false) (.int .u8 h3))
    have b5 := (Below.put9 b7 (b := w.heap.size) (by first | exact Nat.le_refl _ | omega) (.int .u8 17) (.int .u32 h5) (.int .u16 g0) (.int .u32 h6) (.int .u16 g1) (.int .i64 2) (.int .u8 0) (.bool false) (.int .u8 h3))
    have HR5 := hide r5; have HB5 := hide b5
    clear r5 b5 d7
    generalize (((((((((W6.setCell ⟨w.heap.size, 0, none⟩ (.int .u8 17)).setCell ⟨w.heap.size, 1, none⟩ (.int .u32 h5)).setCell ⟨w.heap.size, 2, none⟩ (.int .u16 g0)).setCell ⟨w.heap.size, 3, none⟩ (.int .u32 h6)).setCell ⟨w.heap.size, 4, none⟩ (.int .u16 g1)).setCell ⟨w.heap.size, 5, none⟩ (.int .i64 2)).setCell ⟨w.heap.size, 6, none⟩ (.int .u8 0)).setCell ⟨w.heap.size, 7, none⟩ (.bool false)).setCell ⟨w.heap.size, 8, none⟩ (.int .u8 h3)) = W5 at *
    have r5 := HR5.out; have b5 := HB5.out
    clear HR5 HB5
    obtain ⟨xr5_0, xr5_1, xr5_2, xr5_3, xr5_4, xr5_5, xr5_6, xr5_7, xr5_8⟩ := r5.x9
    (try simp only [Exit.inBlock, Exit.then]); refine bodyPost_ret (by simp [results, Tryz.results37, go_sem, *]; try rfl) rfl ?_
    first | exact ⟨rfl, b5⟩ | exact ⟨rfl, b5.drew⟩

set_option maxRecDepth 100000 in
set_option maxHeartbeats 4000000 in
theorem o_Of_msg_no (s l : ByteArray) (w : World) (h0 h1 h3 h5 h6 : Int) (h2 : Bool) (h7 : ByteArray)
    (c1 : ∀ W, Calls Tryz.prog 81 #[.string s] W (Ret (.tuple #[.agg #[.int .u8 h0, .int .u16 h1, .bool h2, .int .u8 h3, .int .u8 1, .int .u32 h5, .int .u32 h6, .string h7], .string l, .int .i64 0]) W))
    (c2 : ∀ W, Calls Tryz.prog 84 #[.string l] W (Ret (.tuple #[.agg #[.int .u8 0, .int .u8 0, .int .u16 0, .string { data := #[] }, .string { data := #[] }], .bool false]) W)) :
    Calls Tryz.prog 37 #[.string s] w (Ret (.tuple #[.agg #[.int .u8 0, .int .u32 0, .int .u16 0, .int .u32 0, .int .u16 0, .int .i64 0, .int .u8 0, .bool false, .int .u8 0], .int .i64 7]) w) := by
  have C1 := hide c1; have C2 := hide c2
  clear c1 c2
  go_enter Tryz.func37, Tryz.ntmps37
  have d0 := Cells.new w #[.int .u8 0, .int .u32 0, .int .u16 0, .int .u32 0, .int .u16 0, .int .i64 0, .int .u8 0, .bool false, .int .u8 0] 40
  go_wp2_with fail
  (with_reducible refine (C1.out _).mono ?_)
  rintro e w1 ⟨rfl, b1⟩
  have d1 := Cells.below b1 d0
  have e1 := Cells.new w1 #[.int .u8 h0, .int .u16 h1, .bool h2, .int .u8 h3, .int .u8 1, .int .u32 h5, .int .u32 h6, .string h7] 160
  obtain ⟨xe1_0, xe1_1, xe1_2, xe1_3, xe1_4, xe1_5, xe1_6, xe1_7⟩ := e1.x8
  have d3 := Cells.alloc (Cells.alloc d1 (.cells #[.int .u8 h0, .int .u16 h1, .bool h2, .int .u8 h3, .int .u8 1, .int .u32 h5, .int .u32 h6, .string h7] 160)) (.cells #[.int .u8 1, .int .u32 h5, .int .u16 0, .int .u32 h6, .int .u16 0, .int .i64 2, .int .u8 0, .bool false, .int .u8 h3] 40)
  have e3 := Cells.alloc e1 (.cells #[.int .u8 1, .int .u32 h5, .int .u16 0, .int .u32 h6, .int .u16 0, .int .i64 2, .int .u8 0, .bool false, .int .u8 h3] 40)
  have xe3_4 : (((w1.alloc (.cells #[.int .u8 h0, .int .u16 h1, .bool h2, .int .u8 h3, .int .u8 1, .int .u32 h5, .int .u32 h6, .string h7] 160)).alloc (.cells #[.int .u8 1, .int .u32 h5, .int .u16 0, .int .u32 h6, .int .u16 0, .int .i64 2, .int .u8 0, .bool false, .int .u8 h3] 40))).cell? ⟨w1.heap.size, 4, none⟩ = some (.int .u8 1) := e3.at_ 4
  have x3 : Cells ((w1.alloc (.cells #[.int .u8 h0, .int .u16 h1, .bool h2, .int .u8 h3, .int .u8 1, .int .u32 h5, .int .u32 h6, .string h7] 160)).alloc (.cells #[.int .u8 1, .int .u32 h5, .int .u16 0, .int .u32 h6, .int .u16 0, .int .i64 2, .int .u8 0, .bool false, .int .u8 h3] 40)) (w1.heap.size + 1) #[.int .u8 1, .int .u32 h5, .int .u16 0, .int .u32 h6, .int .u16 0, .int .i64 2, .int .u8 0, .bool false, .int .u8 h3] 40 := by
    have := Cells.new (w1.alloc (.cells #[.int .u8 h0, .int .u16 h1, .bool h2, .int .u8 h3, .int .u8 1, .int .u32 h5, .int .u32 h6, .string h7] 160)) #[.int .u8 1, .int .u32 h5, .int .u16 0, .int .u32 h6, .int .u16 0, .int .i64 2, .int .u8 0, .bool false, .int .u8 h3] 40
    rw [show (w1.alloc (.cells #[.int .u8 h0, .int .u16 h1, .bool h2, .int .u8 h3, .int .u8 1, .int .u32 h5, .int .u32 h6, .string h7] 160)).heap.size = w1.heap.size + 1 from by simp] at this
    exact this
  have b3 : Below w.heap.size w ((w1.alloc (.cells #[.int .u8 h0, .int .u16 h1, .bool h2, .int .u8 h3, .int .u8 1, .int .u32 h5, .int .u32 h6, .string h7] 160)).alloc (.cells #[.int .u8 1, .int .u32 h5, .int .u16 0, .int .u32 h6, .int .u16 0, .int .i64 2, .int .u8 0, .bool false, .int .u8 h3] 40)) := bstep (bstep (bstep (fresh_below _ _) b1) (fresh_below _ _)) (fresh_below _ _)
  have hlt : w.heap.size ≠ w1.heap.size + 1 := by have := d1.lt; omega
  have hle : w.heap.size ≤ w1.heap.size + 1 := by have := d1.lt; omega
  have D3 := hide d3; have X3 := hide x3; have B3 := hide b3; have HN := hide hlt; have HL := hide hle
  clear d0 d1 e1 d3 e3 x3 b3 b1 hlt hle
  go_wp2_with fail
  (with_reducible refine (C2.out _).mono ?_)
  rintro e w4 ⟨rfl, b4⟩
  have d4 := Cells.alloc (Cells.below b4 D3.out) (.cells #[.int .u8 0, .int .u8 0, .int .u16 0, .string { data := #[] }, .string { data := #[] }] 164)
  have x4 := Cells.alloc (Cells.below b4 X3.out) (.cells #[.int .u8 0, .int .u8 0, .int .u16 0, .string { data := #[] }, .string { data := #[] }] 164)
  have e4 := Cells.new w4 #[.int .u8 0, .int .u8 0, .int .u16 0, .string { data := #[] }, .string { data := #[] }] 164
  have b5 : Below w.heap.size w (w4.alloc (.cells #[.int .u8 0, .int .u8 0, .int .u16 0, .string { data := #[] }, .string { data := #[] }] 164)) := bstep (bstep B3.out b4) (fresh_below _ _)
  have hgw : w4.heap.size ≠ w.heap.size := by have := (Cells.below b4 D3.out).lt; omega
  have hgx : w4.heap.size ≠ w1.heap.size + 1 := by have := (Cells.below b4 X3.out).lt; omega
  have HGW := hide hgw; have HGX := hide hgx
  clear D3 X3 B3 b4 C1 C2 hgw hgx
  obtain ⟨xd4_0, xd4_1, xd4_2, xd4_3, xd4_4, xd4_5, xd4_6, xd4_7, xd4_8⟩ := d4.x9
  obtain ⟨yd4_0, yd4_1, yd4_2, yd4_3, yd4_4, yd4_5, yd4_6, yd4_7, yd4_8⟩ := d4.y9
  go_wp2_with fail
  generalize (w4.alloc (.cells #[.int .u8 0, .int .u8 0, .int .u16 0, .string { data := #[] }, .string { data := #[] }] 164)) = W at *
  have r5 := (Cells.put9 d4 (.int .u8 0) (.int .u32 0) (.int .u16 0) (.int .u32 0) (.int .u16 0) (.int .i64 0) (.int .u8 0) (.bool false) (.int .u8 0))
  have b5 := (Below.put9 b5 (b := w.heap.size) (by first | exact Nat.le_refl _ | omega) (.int .u8 0) (.int .u32 0) (.int .u16 0) (.int .u32 0) (.int .u16 0) (.int .i64 0) (.int .u8 0) (.bool false) (.int .u8 0))
  have HR5 := hide r5; have HB5 := hide b5
  clear r5 b5 d4
  generalize (((((((((W.setCell ⟨w.heap.size, 0, none⟩ (.int .u8 0)).setCell ⟨w.heap.size, 1, none⟩ (.int .u32 0)).setCell ⟨w.heap.size, 2, none⟩ (.int .u16 0)).setCell ⟨w.heap.size, 3, none⟩ (.int .u32 0)).setCell ⟨w.heap.size, 4, none⟩ (.int .u16 0)).setCell ⟨w.heap.size, 5, none⟩ (.int .i64 0)).setCell ⟨w.heap.size, 6, none⟩ (.int .u8 0)).setCell ⟨w.heap.size, 7, none⟩ (.bool false)).setCell ⟨w.heap.size, 8, none⟩ (.int .u8 0)) = W5 at *
  have r5 := HR5.out; have b5 := HB5.out
  clear HR5 HB5
  obtain ⟨xr5_0, xr5_1, xr5_2, xr5_3, xr5_4, xr5_5, xr5_6, xr5_7, xr5_8⟩ := r5.x9
  (try simp only [Exit.inBlock, Exit.then]); refine bodyPost_ret (by simp [results, Tryz.results37, go_sem, *]; try rfl) rfl ?_
  first | exact ⟨rfl, b5⟩ | exact ⟨rfl, b5.drew⟩

set_option maxRecDepth 100000 in
set_option maxHeartbeats 4000000 in
theorem o_Of_msg_none (s l : ByteArray) (w : World) (h0 h1 h3 h5 h6 : Int) (h2 : Bool) (h7 : ByteArray) (m0 m1 m2 id : Int) (m3 m4 : ByteArray)
    (c1 : ∀ W, Calls Tryz.prog 81 #[.string s] W (Ret (.tuple #[.agg #[.int .u8 h0, .int .u16 h1, .bool h2, .int .u8 h3, .int .u8 1, .int .u32 h5, .int .u32 h6, .string h7], .string l, .int .i64 0]) W))
    (c2 : ∀ W, Calls Tryz.prog 84 #[.string l] W (Ret (.tuple #[.agg #[.int .u8 m0, .int .u8 m1, .int .u16 m2, .string m3, .string m4], .bool true]) W))
    (c3 : ∀ W, Calls Tryz.prog 85 #[.agg #[.int .u8 m0, .int .u8 m1, .int .u16 m2, .string m3, .string m4]] W (Ret (.tuple #[.bool false, .bool false]) W))
    (c4 : ∀ W, Calls Tryz.prog 86 #[.agg #[.int .u8 m0, .int .u8 m1, .int .u16 m2, .string m3, .string m4]] W (Ret (.bool false) W))
    (c5 : ∀ W, Calls Tryz.prog 87 #[.agg #[.int .u8 m0, .int .u8 m1, .int .u16 m2, .string m3, .string m4]] W (Ret (.int .u16 id) W)) :
    Calls Tryz.prog 37 #[.string s] w (Ret (.tuple #[.agg #[.int .u8 0, .int .u32 0, .int .u16 0, .int .u32 0, .int .u16 0, .int .i64 0, .int .u8 0, .bool false, .int .u8 0], .int .i64 6]) w) := by
  have C1 := hide c1; have C2 := hide c2; have C3 := hide c3; have C4 := hide c4; have C5 := hide c5
  clear c1 c2 c3 c4 c5
  go_enter Tryz.func37, Tryz.ntmps37
  have d0 := Cells.new w #[.int .u8 0, .int .u32 0, .int .u16 0, .int .u32 0, .int .u16 0, .int .i64 0, .int .u8 0, .bool false, .int .u8 0] 40
  go_wp2_with fail
  (with_reducible refine (C1.out _).mono ?_)
  rintro e w1 ⟨rfl, b1⟩
  have d1 := Cells.below b1 d0
  have e1 := Cells.new w1 #[.int .u8 h0, .int .u16 h1, .bool h2, .int .u8 h3, .int .u8 1, .int .u32 h5, .int .u32 h6, .string h7] 160
  obtain ⟨xe1_0, xe1_1, xe1_2, xe1_3, xe1_4, xe1_5, xe1_6, xe1_7⟩ := e1.x8
  have d3 := Cells.alloc (Cells.alloc d1 (.cells #[.int .u8 h0, .int .u16 h1, .bool h2, .int .u8 h3, .int .u8 1, .int .u32 h5, .int .u32 h6, .string h7] 160)) (.cells #[.int .u8 1, .int .u32 h5, .int .u16 0, .int .u32 h6, .int .u16 0, .int .i64 2, .int .u8 0, .bool false, .int .u8 h3] 40)
  have e3 := Cells.alloc e1 (.cells #[.int .u8 1, .int .u32 h5, .int .u16 0, .int .u32 h6, .int .u16 0, .int .i64 2, .int .u8 0, .bool false, .int .u8 h3] 40)
  have xe3_4 : (((w1.alloc (.cells #[.int .u8 h0, .int .u16 h1, .bool h2, .int .u8 h3, .int .u8 1, .int .u32 h5, .int .u32 h6, .string h7] 160)).alloc (.cells #[.int .u8 1, .int .u32 h5, .int .u16 0, .int .u32 h6, .int .u16 0, .int .i64 2, .int .u8 0, .bool false, .int .u8 h3] 40))).cell? ⟨w1.heap.size, 4, none⟩ = some (.int .u8 1) := e3.at_ 4
  have x3 : Cells ((w1.alloc (.cells #[.int .u8 h0, .int .u16 h1, .bool h2, .int .u8 h3, .int .u8 1, .int .u32 h5, .int .u32 h6, .string h7] 160)).alloc (.cells #[.int .u8 1, .int .u32 h5, .int .u16 0, .int .u32 h6, .int .u16 0, .int .i64 2, .int .u8 0, .bool false, .int .u8 h3] 40)) (w1.heap.size + 1) #[.int .u8 1, .int .u32 h5, .int .u16 0, .int .u32 h6, .int .u16 0, .int .i64 2, .int .u8 0, .bool false, .int .u8 h3] 40 := by
    have := Cells.new (w1.alloc (.cells #[.int .u8 h0, .int .u16 h1, .bool h2, .int .u8 h3, .int .u8 1, .int .u32 h5, .int .u32 h6, .string h7] 160)) #[.int .u8 1, .int .u32 h5, .int .u16 0, .int .u32 h6, .int .u16 0, .int .i64 2, .int .u8 0, .bool false, .int .u8 h3] 40
    rw [show (w1.alloc (.cells #[.int .u8 h0, .int .u16 h1, .bool h2, .int .u8 h3, .int .u8 1, .int .u32 h5, .int .u32 h6, .string h7] 160)).heap.size = w1.heap.size + 1 from by simp] at this
    exact this
  have b3 : Below w.heap.size w ((w1.alloc (.cells #[.int .u8 h0, .int .u16 h1, .bool h2, .int .u8 h3, .int .u8 1, .int .u32 h5, .int .u32 h6, .string h7] 160)).alloc (.cells #[.int .u8 1, .int .u32 h5, .int .u16 0, .int .u32 h6, .int .u16 0, .int .i64 2, .int .u8 0, .bool false, .int .u8 h3] 40)) := bstep (bstep (bstep (fresh_below _ _) b1) (fresh_below _ _)) (fresh_below _ _)
  have hlt : w.heap.size ≠ w1.heap.size + 1 := by have := d1.lt; omega
  have hle : w.heap.size ≤ w1.heap.size + 1 := by have := d1.lt; omega
  have D3 := hide d3; have X3 := hide x3; have B3 := hide b3; have HN := hide hlt; have HL := hide hle
  clear d0 d1 e1 d3 e3 x3 b3 b1 hlt hle
  go_wp2_with fail
  (with_reducible refine (C2.out _).mono ?_)
  rintro e w4 ⟨rfl, b4⟩
  have d4 := Cells.alloc (Cells.below b4 D3.out) (.cells #[.int .u8 m0, .int .u8 m1, .int .u16 m2, .string m3, .string m4] 164)
  have x4 := Cells.alloc (Cells.below b4 X3.out) (.cells #[.int .u8 m0, .int .u8 m1, .int .u16 m2, .string m3, .string m4] 164)
  have e4 := Cells.new w4 #[.int .u8 m0, .int .u8 m1, .int .u16 m2, .string m3, .string m4] 164
  have b5 : Below w.heap.size w (w4.alloc (.cells #[.int .u8 m0, .int .u8 m1, .int .u16 m2, .string m3, .string m4] 164)) := bstep (bstep B3.out b4) (fresh_below _ _)
  have hgw : w4.heap.size ≠ w.heap.size := by have := (Cells.below b4 D3.out).lt; omega
  have hgx : w4.heap.size ≠ w1.heap.size + 1 := by have := (Cells.below b4 X3.out).lt; omega
  have HGW := hide hgw; have HGX := hide hgx
  clear D3 X3 B3 b4 C1 C2 hgw hgx
  obtain ⟨xe4_0, xe4_1, xe4_2, xe4_3, xe4_4⟩ := e4.x5
  have E4 := hide e4; have X4 := hide x4; have D4 := hide d4; have B5 := hide b5
  clear d4 b5 x4 e4
  go_wp2_with fail
  (with_reducible refine (C3.out _).mono ?_)
  rintro e w6 ⟨rfl, b6⟩
  have d6 := Cells.below b6 D4.out
  have x6 := Cells.below b6 X4.out
  have e6 := Cells.below b6 E4.out
  have bb6 : Below w.heap.size w w6 := bstep B5.out b6
  clear E4 X4 D4 B5 b6
  obtain ⟨xe6_0, xe6_1, xe6_2, xe6_3, xe6_4⟩ := e6.x5
  have E4 := hide e6; have X4 := hide x6; have D4 := hide d6; have B5 := hide bb6
  clear d6 x6 e6 bb6
  go_wp2_with fail
  (with_reducible refine (C4.out _).mono ?_)
  rintro e w7 ⟨rfl, b7⟩
  have d6 := Cells.below b7 D4.out
  have x6 := Cells.below b7 X4.out
  have e6 := Cells.below b7 E4.out
  have bb6 : Below w.heap.size w w7 := bstep B5.out b7
  clear E4 X4 D4 B5 b7
  obtain ⟨xd6_0, xd6_1, xd6_2, xd6_3, xd6_4, xd6_5, xd6_6, xd6_7, xd6_8⟩ := d6.x9
  obtain ⟨yd6_0, yd6_1, yd6_2, yd6_3, yd6_4, yd6_5, yd6_6, yd6_7, yd6_8⟩ := d6.y9
  go_wp2_with fail
  generalize w7 = W at *
  have r5 := (Cells.put9 d6 (.int .u8 0) (.int .u32 0) (.int .u16 0) (.int .u32 0) (.int .u16 0) (.int .i64 0) (.int .u8 0) (.bool false) (.int .u8 0))
  have b5 := (Below.put9 bb6 (b := w.heap.size) (by first | exact Nat.le_refl _ | omega) (.int .u8 0) (.int .u32 0) (.int .u16 0) (.int .u32 0) (.int .u16 0) (.int .i64 0) (.int .u8 0) (.bool false) (.int .u8 0))
  have HR5 := hide r5; have HB5 := hide b5
  clear r5 b5 d6
  generalize (((((((((W.setCell ⟨w.heap.size, 0, none⟩ (.int .u8 0)).setCell ⟨w.heap.size, 1, none⟩ (.int .u32 0)).setCell ⟨w.heap.size, 2, none⟩ (.int .u16 0)).setCell ⟨w.heap.size, 3, none⟩ (.int .u32 0)).setCell ⟨w.heap.size, 4, none⟩ (.int .u16 0)).setCell ⟨w.heap.size, 5, none⟩ (.int .i64 0)).setCell ⟨w.heap.size, 6, none⟩ (.int .u8 0)).setCell ⟨w.heap.size, 7, none⟩ (.bool false)).setCell ⟨w.heap.size, 8, none⟩ (.int .u8 0)) = W5 at *
  have r5 := HR5.out; have b5 := HB5.out
  clear HR5 HB5
  obtain ⟨xr5_0, xr5_1, xr5_2, xr5_3, xr5_4, xr5_5, xr5_6, xr5_7, xr5_8⟩ := r5.x9
  (try simp only [Exit.inBlock, Exit.then]); refine bodyPost_ret (by simp [results, Tryz.results37, go_sem, *]; try rfl) rfl ?_
  first | exact ⟨rfl, b5⟩ | exact ⟨rfl, b5.drew⟩

set_option maxRecDepth 100000 in
set_option maxHeartbeats 4000000 in
theorem o_Of_msg_err (s l : ByteArray) (w : World) (h0 h1 h3 h5 h6 : Int) (h2 : Bool) (h7 : ByteArray) (m0 m1 m2 id : Int) (m3 m4 : ByteArray)
    (c1 : ∀ W, Calls Tryz.prog 81 #[.string s] W (Ret (.tuple #[.agg #[.int .u8 h0, .int .u16 h1, .bool h2, .int .u8 h3, .int .u8 1, .int .u32 h5, .int .u32 h6, .string h7], .string l, .int .i64 0]) W))
    (c2 : ∀ W, Calls Tryz.prog 84 #[.string l] W (Ret (.tuple #[.agg #[.int .u8 m0, .int .u8 m1, .int .u16 m2, .string m3, .string m4], .bool true]) W))
    (c3 : ∀ W, Calls Tryz.prog 85 #[.agg #[.int .u8 m0, .int .u8 m1, .int .u16 m2, .string m3, .string m4]] W (Ret (.tuple #[.bool false, .bool false]) W))
    (c4 : ∀ W, Calls Tryz.prog 86 #[.agg #[.int .u8 m0, .int .u8 m1, .int .u16 m2, .string m3, .string m4]] W (Ret (.bool true) W))
    (c5 : ∀ W, Calls Tryz.prog 87 #[.agg #[.int .u8 m0, .int .u8 m1, .int .u16 m2, .string m3, .string m4]] W (Ret (.int .u16 id) W)) :
    Calls Tryz.prog 37 #[.string s] w (Ret (.tuple #[.agg #[.int .u8 1, .int .u32 h5, .int .u16 0, .int .u32 h6, .int .u16 0, .int .i64 3, .int .u8 0, .bool false, .int .u8 h3], .int .i64 0]) w) := by
  have C1 := hide c1; have C2 := hide c2; have C3 := hide c3; have C4 := hide c4; have C5 := hide c5
  clear c1 c2 c3 c4 c5
  go_enter Tryz.func37, Tryz.ntmps37
  have d0 := Cells.new w #[.int .u8 0, .int .u32 0, .int .u16 0, .int .u32 0, .int .u16 0, .int .i64 0, .int .u8 0, .bool false, .int .u8 0] 40
  go_wp2_with fail
  (with_reducible refine (C1.out _).mono ?_)
  rintro e w1 ⟨rfl, b1⟩
  have d1 := Cells.below b1 d0
  have e1 := Cells.new w1 #[.int .u8 h0, .int .u16 h1, .bool h2, .int .u8 h3, .int .u8 1, .int .u32 h5, .int .u32 h6, .string h7] 160
  obtain ⟨xe1_0, xe1_1, xe1_2, xe1_3, xe1_4, xe1_5, xe1_6, xe1_7⟩ := e1.x8
  have d3 := Cells.alloc (Cells.alloc d1 (.cells #[.int .u8 h0, .int .u16 h1, .bool h2, .int .u8 h3, .int .u8 1, .int .u32 h5, .int .u32 h6, .string h7] 160)) (.cells #[.int .u8 1, .int .u32 h5, .int .u16 0, .int .u32 h6, .int .u16 0, .int .i64 2, .int .u8 0, .bool false, .int .u8 h3] 40)
  have e3 := Cells.alloc e1 (.cells #[.int .u8 1, .int .u32 h5, .int .u16 0, .int .u32 h6, .int .u16 0, .int .i64 2, .int .u8 0, .bool false, .int .u8 h3] 40)
  have xe3_4 : (((w1.alloc (.cells #[.int .u8 h0, .int .u16 h1, .bool h2, .int .u8 h3, .int .u8 1, .int .u32 h5, .int .u32 h6, .string h7] 160)).alloc (.cells #[.int .u8 1, .int .u32 h5, .int .u16 0, .int .u32 h6, .int .u16 0, .int .i64 2, .int .u8 0, .bool false, .int .u8 h3] 40))).cell? ⟨w1.heap.size, 4, none⟩ = some (.int .u8 1) := e3.at_ 4
  have x3 : Cells ((w1.alloc (.cells #[.int .u8 h0, .int .u16 h1, .bool h2, .int .u8 h3, .int .u8 1, .int .u32 h5, .int .u32 h6, .string h7] 160)).alloc (.cells #[.int .u8 1, .int .u32 h5, .int .u16 0, .int .u32 h6, .int .u16 0, .int .i64 2, .int .u8 0, .bool false, .int .u8 h3] 40)) (w1.heap.size + 1) #[.int .u8 1, .int .u32 h5, .int .u16 0, .int .u32 h6, .int .u16 0, .int .i64 2, .int .u8 0, .bool false, .int .u8 h3] 40 := by
    have := Cells.new (w1.alloc (.cells #[.int .u8 h0, .int .u16 h1, .bool h2, .int .u8 h3, .int .u8 1, .int .u32 h5, .int .u32 h6, .string h7] 160)) #[.int .u8 1, .int .u32 h5, .int .u16 0, .int .u32 h6, .int .u16 0, .int .i64 2, .int .u8 0, .bool false, .int .u8 h3] 40
    rw [show (w1.alloc (.cells #[.int .u8 h0, .int .u16 h1, .bool h2, .int .u8 h3, .int .u8 1, .int .u32 h5, .int .u32 h6, .string h7] 160)).heap.size = w1.heap.size + 1 from by simp] at this
    exact this
  have b3 : Below w.heap.size w ((w1.alloc (.cells #[.int .u8 h0, .int .u16 h1, .bool h2, .int .u8 h3, .int .u8 1, .int .u32 h5, .int .u32 h6, .string h7] 160)).alloc (.cells #[.int .u8 1, .int .u32 h5, .int .u16 0, .int .u32 h6, .int .u16 0, .int .i64 2, .int .u8 0, .bool false, .int .u8 h3] 40)) := bstep (bstep (bstep (fresh_below _ _) b1) (fresh_below _ _)) (fresh_below _ _)
  have hlt : w.heap.size ≠ w1.heap.size + 1 := by have := d1.lt; omega
  have hle : w.heap.size ≤ w1.heap.size + 1 := by have := d1.lt; omega
  have D3 := hide d3; have X3 := hide x3; have B3 := hide b3; have HN := hide hlt; have HL := hide hle
  clear d0 d1 e1 d3 e3 x3 b3 b1 hlt hle
  go_wp2_with fail
  (with_reducible refine (C2.out _).mono ?_)
  rintro e w4 ⟨rfl, b4⟩
  have d4 := Cells.alloc (Cells.below b4 D3.out) (.cells #[.int .u8 m0, .int .u8 m1, .int .u16 m2, .string m3, .string m4] 164)
  have x4 := Cells.alloc (Cells.below b4 X3.out) (.cells #[.int .u8 m0, .int .u8 m1, .int .u16 m2, .string m3, .string m4] 164)
  have e4 := Cells.new w4 #[.int .u8 m0, .int .u8 m1, .int .u16 m2, .string m3, .string m4] 164
  have b5 : Below w.heap.size w (w4.alloc (.cells #[.int .u8 m0, .int .u8 m1, .int .u16 m2, .string m3, .string m4] 164)) := bstep (bstep B3.out b4) (fresh_below _ _)
  have hgw : w4.heap.size ≠ w.heap.size := by have := (Cells.below b4 D3.out).lt; omega
  have hgx : w4.heap.size ≠ w1.heap.size + 1 := by have := (Cells.below b4 X3.out).lt; omega
  have HGW := hide hgw; have HGX := hide hgx
  clear D3 X3 B3 b4 C1 C2 hgw hgx
  obtain ⟨xe4_0, xe4_1, xe4_2, xe4_3, xe4_4⟩ := e4.x5
  have E4 := hide e4; have X4 := hide x4; have D4 := hide d4; have B5 := hide b5
  clear d4 b5 x4 e4
  go_wp2_with fail
  (with_reducible refine (C3.out _).mono ?_)
  rintro e w6 ⟨rfl, b6⟩
  have d6 := Cells.below b6 D4.out
  have x6 := Cells.below b6 X4.out
  have e6 := Cells.below b6 E4.out
  have bb6 : Below w.heap.size w w6 := bstep B5.out b6
  clear E4 X4 D4 B5 b6
  obtain ⟨xe6_0, xe6_1, xe6_2, xe6_3, xe6_4⟩ := e6.x5
  have E4 := hide e6; have X4 := hide x6; have D4 := hide d6; have B5 := hide bb6
  clear d6 x6 e6 bb6
  go_wp2_with fail
  (with_reducible refine (C4.out _).mono ?_)
  rintro e w7 ⟨rfl, b7⟩
  have d6 := Cells.below b7 D4.out
  have x6 := Cells.below b7 X4.out
  have e6 := Cells.below b7 E4.out
  have bb6 : Below w.heap.size w w7 := bstep B5.out b7
  clear E4 X4 D4 B5 b7
  obtain ⟨xx6_0, xx6_1, xx6_2, xx6_3, xx6_4, xx6_5, xx6_6, xx6_7, xx6_8⟩ := x6.x9
  obtain ⟨yx6_0, yx6_1, yx6_2, yx6_3, yx6_4, yx6_5, yx6_6, yx6_7, yx6_8⟩ := x6.y9
  have x8 : Cells (w7.setCell ⟨w1.heap.size + 1, 7, none⟩ (.bool false)) (w1.heap.size + 1) #[.int .u8 1, .int .u32 h5, .int .u16 0, .int .u32 h6, .int .u16 0, .int .i64 2, .int .u8 0, .bool false, .int .u8 h3] 40 := x6.set_ 7 (.bool false)
  have d8 := d6.other HN.out 7 (.bool false)
  have e8 := e6.other HGX.out 7 (.bool false)
  have b8 : Below w.heap.size w (w7.setCell ⟨w1.heap.size + 1, 7, none⟩ (.bool false)) := Below.setCell bb6 (by have := HL.out; dsimp only; omega) _
  obtain ⟨xx8_0, xx8_1, xx8_2, xx8_3, xx8_4, xx8_5, xx8_6, xx8_7, xx8_8⟩ := x8.x9
  obtain ⟨yx8_0, yx8_1, yx8_2, yx8_3, yx8_4, yx8_5, yx8_6, yx8_7, yx8_8⟩ := x8.y9
  have x9 : Cells ((w7.setCell ⟨w1.heap.size + 1, 7, none⟩ (.bool false)).setCell ⟨w1.heap.size + 1, 5, none⟩ (.int .i64 3)) (w1.heap.size + 1) #[.int .u8 1, .int .u32 h5, .int .u16 0, .int .u32 h6, .int .u16 0, .int .i64 3, .int .u8 0, .bool false, .int .u8 h3] 40 := x8.set_ 5 (.int .i64 3)
  have d9 := d8.other HN.out 5 (.int .i64 3)
  have e9 := e8.other HGX.out 5 (.int .i64 3)
  have b9 : Below w.heap.size w ((w7.setCell ⟨w1.heap.size + 1, 7, none⟩ (.bool false)).setCell ⟨w1.heap.size + 1, 5, none⟩ (.int .i64 3)) := Below.setCell b8 (by have := HL.out; dsimp only; omega) _
  obtain ⟨xx9_0, xx9_1, xx9_2, xx9_3, xx9_4, xx9_5, xx9_6, xx9_7, xx9_8⟩ := x9.x9
  obtain ⟨xd9_0, xd9_1, xd9_2, xd9_3, xd9_4, xd9_5, xd9_6, xd9_7, xd9_8⟩ := d9.x9
  obtain ⟨yd9_0, yd9_1, yd9_2, yd9_3, yd9_4, yd9_5, yd9_6, yd9_7, yd9_8⟩ := d9.y9
  have D9 := hide d9; have B9 := hide b9
  clear d6 x6 e6 bb6 d8 x8 e8 b8 d9 x9 e9 b9
  go_wp2_with fail
  have d9 := D9.out; have b9 := B9.out; have hle := HL.out
  generalize ((w7.setCell ⟨w1.heap.size + 1, 7, none⟩ (.bool false)).setCell ⟨w1.heap.size + 1, 5, none⟩ (.int .i64 3)) = W9 at *
  have r5 := (Cells.put9 d9 (.int .u8 1) (.int .u32 h5) (.int .u16 0) (.int .u32 h6) (.int .u16 0) (.int .i64 3) (.int .u8 0) (.bool false) (.int .u8 h3))
  have b5 := (Below.put9 b9 (b := w.heap.size) (by first | exact Nat.le_refl _ | omega) (.int .u8 1) (.int .u32 h5) (.int .u16 0) (.int .u32 h6) (.int .u16 0) (.int .i64 3) (.int .u8 0) (.bool false) (.int .u8 h3))
  have HR5 := hide r5; have HB5 := hide b5
  clear r5 b5 d9
  generalize (((((((((W9.setCell ⟨w.heap.size, 0, none⟩ (.int .u8 1)).setCell ⟨w.heap.size, 1, none⟩ (.int .u32 h5)).setCell ⟨w.heap.size, 2, none⟩ (.int .u16 0)).setCell ⟨w.heap.size, 3, none⟩ (.int .u32 h6)).setCell ⟨w.heap.size, 4, none⟩ (.int .u16 0)).setCell ⟨w.heap.size, 5, none⟩ (.int .i64 3)).setCell ⟨w.heap.size, 6, none⟩ (.int .u8 0)).setCell ⟨w.heap.size, 7, none⟩ (.bool false)).setCell ⟨w.heap.size, 8, none⟩ (.int .u8 h3)) = W5 at *
  have r5 := HR5.out; have b5 := HB5.out
  clear HR5 HB5
  obtain ⟨xr5_0, xr5_1, xr5_2, xr5_3, xr5_4, xr5_5, xr5_6, xr5_7, xr5_8⟩ := r5.x9
  (try simp only [Exit.inBlock, Exit.then]); refine bodyPost_ret (by simp [results, Tryz.results37, go_sem, *]; try rfl) rfl ?_
  first | exact ⟨rfl, b5⟩ | exact ⟨rfl, b5.drew⟩

set_option maxRecDepth 100000 in
set_option maxHeartbeats 4000000 in
theorem o_Of_msg_ask (e : Bool) (s l : ByteArray) (w : World) (h0 h1 h3 h5 h6 : Int) (h2 : Bool) (h7 : ByteArray) (m0 m1 m2 id : Int) (m3 m4 : ByteArray)
    (c1 : ∀ W, Calls Tryz.prog 81 #[.string s] W (Ret (.tuple #[.agg #[.int .u8 h0, .int .u16 h1, .bool h2, .int .u8 h3, .int .u8 1, .int .u32 h5, .int .u32 h6, .string h7], .string l, .int .i64 0]) W))
    (c2 : ∀ W, Calls Tryz.prog 84 #[.string l] W (Ret (.tuple #[.agg #[.int .u8 m0, .int .u8 m1, .int .u16 m2, .string m3, .string m4], .bool true]) W))
    (c3 : ∀ W, Calls Tryz.prog 85 #[.agg #[.int .u8 m0, .int .u8 m1, .int .u16 m2, .string m3, .string m4]] W (Ret (.tuple #[.bool true, .bool true]) W))
    (c4 : ∀ W, Calls Tryz.prog 86 #[.agg #[.int .u8 m0, .int .u8 m1, .int .u16 m2, .string m3, .string m4]] W (Ret (.bool e) W))
    (c5 : ∀ W, Calls Tryz.prog 87 #[.agg #[.int .u8 m0, .int .u8 m1, .int .u16 m2, .string m3, .string m4]] W (Ret (.int .u16 id) W)) :
    Calls Tryz.prog 37 #[.string s] w (Ret (.tuple #[.agg #[.int .u8 1, .int .u32 h5, .int .u16 id, .int .u32 h6, .int .u16 0, .int .i64 2, .int .u8 0, .bool true, .int .u8 h3], .int .i64 0]) w) := by
  have C1 := hide c1; have C2 := hide c2; have C3 := hide c3; have C4 := hide c4; have C5 := hide c5
  clear c1 c2 c3 c4 c5
  go_enter Tryz.func37, Tryz.ntmps37
  have d0 := Cells.new w #[.int .u8 0, .int .u32 0, .int .u16 0, .int .u32 0, .int .u16 0, .int .i64 0, .int .u8 0, .bool false, .int .u8 0] 40
  go_wp2_with fail
  (with_reducible refine (C1.out _).mono ?_)
  rintro e w1 ⟨rfl, b1⟩
  have d1 := Cells.below b1 d0
  have e1 := Cells.new w1 #[.int .u8 h0, .int .u16 h1, .bool h2, .int .u8 h3, .int .u8 1, .int .u32 h5, .int .u32 h6, .string h7] 160
  obtain ⟨xe1_0, xe1_1, xe1_2, xe1_3, xe1_4, xe1_5, xe1_6, xe1_7⟩ := e1.x8
  have d3 := Cells.alloc (Cells.alloc d1 (.cells #[.int .u8 h0, .int .u16 h1, .bool h2, .int .u8 h3, .int .u8 1, .int .u32 h5, .int .u32 h6, .string h7] 160)) (.cells #[.int .u8 1, .int .u32 h5, .int .u16 0, .int .u32 h6, .int .u16 0, .int .i64 2, .int .u8 0, .bool false, .int .u8 h3] 40)
  have e3 := Cells.alloc e1 (.cells #[.int .u8 1, .int .u32 h5, .int .u16 0, .int .u32 h6, .int .u16 0, .int .i64 2, .int .u8 0, .bool false, .int .u8 h3] 40)
  have xe3_4 : (((w1.alloc (.cells #[.int .u8 h0, .int .u16 h1, .bool h2, .int .u8 h3, .int .u8 1, .int .u32 h5, .int .u32 h6, .string h7] 160)).alloc (.cells #[.int .u8 1, .int .u32 h5, .int .u16 0, .int .u32 h6, .int .u16 0, .int .i64 2, .int .u8 0, .bool false, .int .u8 h3] 40))).cell? ⟨w1.heap.size, 4, none⟩ = some (.int .u8 1) := e3.at_ 4
  have x3 : Cells ((w1.alloc (.cells #[.int .u8 h0, .int .u16 h1, .bool h2, .int .u8 h3, .int .u8 1, .int .u32 h5, .int .u32 h6, .string h7] 160)).alloc (.cells #[.int .u8 1, .int .u32 h5, .int .u16 0, .int .u32 h6, .int .u16 0, .int .i64 2, .int .u8 0, .bool false, .int .u8 h3] 40)) (w1.heap.size + 1) #[.int .u8 1, .int .u32 h5, .int .u16 0, .int .u32 h6, .int .u16 0, .int .i64 2, .int .u8 0, .bool false, .int .u8 h3] 40 := by
    have := Cells.new (w1.alloc (.cells #[.int .u8 h0, .int .u16 h1, .bool h2, .int .u8 h3, .int .u8 1, .int .u32 h5, .int .u32 h6, .string h7] 160)) #[.int .u8 1, .int .u32 h5, .int .u16 0, .int .u32 h6, .int .u16 0, .int .i64 2, .int .u8 0, .bool false, .int .u8 h3] 40
    rw [show (w1.alloc (.cells #[.int .u8 h0, .int .u16 h1, .bool h2, .int .u8 h3, .int .u8 1, .int .u32 h5, .int .u32 h6, .string h7] 160)).heap.size = w1.heap.size + 1 from by simp] at this
    exact this
  have b3 : Below w.heap.size w ((w1.alloc (.cells #[.int .u8 h0, .int .u16 h1, .bool h2, .int .u8 h3, .int .u8 1, .int .u32 h5, .int .u32 h6, .string h7] 160)).alloc (.cells #[.int .u8 1, .int .u32 h5, .int .u16 0, .int .u32 h6, .int .u16 0, .int .i64 2, .int .u8 0, .bool false, .int .u8 h3] 40)) := bstep (bstep (bstep (fresh_below _ _) b1) (fresh_below _ _)) (fresh_below _ _)
  have hlt : w.heap.size ≠ w1.heap.size + 1 := by have := d1.lt; omega
  have hle : w.heap.size ≤ w1.heap.size + 1 := by have := d1.lt; omega
  have D3 := hide d3; have X3 := hide x3; have B3 := hide b3; have HN := hide hlt; have HL := hide hle
  clear d0 d1 e1 d3 e3 x3 b3 b1 hlt hle
  go_wp2_with fail
  (with_reducible refine (C2.out _).mono ?_)
  rintro e w4 ⟨rfl, b4⟩
  have d4 := Cells.alloc (Cells.below b4 D3.out) (.cells #[.int .u8 m0, .int .u8 m1, .int .u16 m2, .string m3, .string m4] 164)
  have x4 := Cells.alloc (Cells.below b4 X3.out) (.cells #[.int .u8 m0, .int .u8 m1, .int .u16 m2, .string m3, .string m4] 164)
  have e4 := Cells.new w4 #[.int .u8 m0, .int .u8 m1, .int .u16 m2, .string m3, .string m4] 164
  have b5 : Below w.heap.size w (w4.alloc (.cells #[.int .u8 m0, .int .u8 m1, .int .u16 m2, .string m3, .string m4] 164)) := bstep (bstep B3.out b4) (fresh_below _ _)
  have hgw : w4.heap.size ≠ w.heap.size := by have := (Cells.below b4 D3.out).lt; omega
  have hgx : w4.heap.size ≠ w1.heap.size + 1 := by have := (Cells.below b4 X3.out).lt; omega
  have HGW := hide hgw; have HGX := hide hgx
  clear D3 X3 B3 b4 C1 C2 hgw hgx
  obtain ⟨xe4_0, xe4_1, xe4_2, xe4_3, xe4_4⟩ := e4.x5
  have E4 := hide e4; have X4 := hide x4; have D4 := hide d4; have B5 := hide b5
  clear d4 b5 x4 e4
  go_wp2_with fail
  (with_reducible refine (C3.out _).mono ?_)
  rintro e w6 ⟨rfl, b6⟩
  have d6 := Cells.below b6 D4.out
  have x6 := Cells.below b6 X4.out
  have e6 := Cells.below b6 E4.out
  have bb6 : Below w.heap.size w w6 := bstep B5.out b6
  clear E4 X4 D4 B5 b6
  obtain ⟨xx6_0, xx6_1, xx6_2, xx6_3, xx6_4, xx6_5, xx6_6, xx6_7, xx6_8⟩ := x6.x9
  obtain ⟨yx6_0, yx6_1, yx6_2, yx6_3, yx6_4, yx6_5, yx6_6, yx6_7, yx6_8⟩ := x6.y9
  have x8 : Cells (w6.setCell ⟨w1.heap.size + 1, 7, none⟩ (.bool true)) (w1.heap.size + 1) #[.int .u8 1, .int .u32 h5, .int .u16 0, .int .u32 h6, .int .u16 0, .int .i64 2, .int .u8 0, .bool true, .int .u8 h3] 40 := x6.set_ 7 (.bool true)
  have d8 := d6.other HN.out 7 (.bool true)
  have e8 := e6.other HGX.out 7 (.bool true)
  have b8 : Below w.heap.size w (w6.setCell ⟨w1.heap.size + 1, 7, none⟩ (.bool true)) := Below.setCell bb6 (by have := HL.out; dsimp only; omega) _
  obtain ⟨xe8_0, xe8_1, xe8_2, xe8_3, xe8_4⟩ := e8.x5
  have E8 := hide e8; have X8 := hide x8; have D8 := hide d8; have B8 := hide b8
  clear d6 x6 e6 bb6 d8 x8 e8 b8
  go_wp2_with fail
  (with_reducible refine (C5.out _).mono ?_)
  rintro e w9 ⟨rfl, b9⟩
  have d9 := Cells.below b9 D8.out
  have x9 := Cells.below b9 X8.out
  have e9 := Cells.below b9 E8.out
  have bb9 : Below w.heap.size w w9 := bstep B8.out b9
  clear E8 X8 D8 B8 b9
  obtain ⟨xx9_0, xx9_1, xx9_2, xx9_3, xx9_4, xx9_5, xx9_6, xx9_7, xx9_8⟩ := x9.x9
  obtain ⟨yx9_0, yx9_1, yx9_2, yx9_3, yx9_4, yx9_5, yx9_6, yx9_7, yx9_8⟩ := x9.y9
  have x10 : Cells (w9.setCell ⟨w1.heap.size + 1, 2, none⟩ (.int .u16 id)) (w1.heap.size + 1) #[.int .u8 1, .int .u32 h5, .int .u16 id, .int .u32 h6, .int .u16 0, .int .i64 2, .int .u8 0, .bool true, .int .u8 h3] 40 := x9.set_ 2 (.int .u16 id)
  have d10 := d9.other HN.out 2 (.int .u16 id)
  have e10 := e9.other HGX.out 2 (.int .u16 id)
  have b10 : Below w.heap.size w (w9.setCell ⟨w1.heap.size + 1, 2, none⟩ (.int .u16 id)) := Below.setCell bb9 (by have := HL.out; dsimp only; omega) _
  obtain ⟨xx10_0, xx10_1, xx10_2, xx10_3, xx10_4, xx10_5, xx10_6, xx10_7, xx10_8⟩ := x10.x9
  obtain ⟨xd10_0, xd10_1, xd10_2, xd10_3, xd10_4, xd10_5, xd10_6, xd10_7, xd10_8⟩ := d10.x9
  obtain ⟨yd10_0, yd10_1, yd10_2, yd10_3, yd10_4, yd10_5, yd10_6, yd10_7, yd10_8⟩ := d10.y9
  have D10 := hide d10; have B10 := hide b10
  clear d9 x9 e9 bb9 d10 x10 e10 b10
  go_wp2_with fail
  have d10 := D10.out; have b10 := B10.out; have hle := HL.out
  generalize (w9.setCell ⟨w1.heap.size + 1, 2, none⟩ (.int .u16 id)) = W10 at *
  have r5 := (Cells.put9 d10 (.int .u8 1) (.int .u32 h5) (.int .u16 id) (.int .u32 h6) (.int .u16 0) (.int .i64 2) (.int .u8 0) (.bool true) (.int .u8 h3))
  have b5 := (Below.put9 b10 (b := w.heap.size) (by first | exact Nat.le_refl _ | omega) (.int .u8 1) (.int .u32 h5) (.int .u16 id) (.int .u32 h6) (.int .u16 0) (.int .i64 2) (.int .u8 0) (.bool true) (.int .u8 h3))
  have HR5 := hide r5; have HB5 := hide b5
  clear r5 b5 d10
  generalize (((((((((W10.setCell ⟨w.heap.size, 0, none⟩ (.int .u8 1)).setCell ⟨w.heap.size, 1, none⟩ (.int .u32 h5)).setCell ⟨w.heap.size, 2, none⟩ (.int .u16 id)).setCell ⟨w.heap.size, 3, none⟩ (.int .u32 h6)).setCell ⟨w.heap.size, 4, none⟩ (.int .u16 0)).setCell ⟨w.heap.size, 5, none⟩ (.int .i64 2)).setCell ⟨w.heap.size, 6, none⟩ (.int .u8 0)).setCell ⟨w.heap.size, 7, none⟩ (.bool true)).setCell ⟨w.heap.size, 8, none⟩ (.int .u8 h3)) = W5 at *
  have r5 := HR5.out; have b5 := HB5.out
  clear HR5 HB5
  obtain ⟨xr5_0, xr5_1, xr5_2, xr5_3, xr5_4, xr5_5, xr5_6, xr5_7, xr5_8⟩ := r5.x9
  (try simp only [Exit.inBlock, Exit.then]); refine bodyPost_ret (by simp [results, Tryz.results37, go_sem, *]; try rfl) rfl ?_
  first | exact ⟨rfl, b5⟩ | exact ⟨rfl, b5.drew⟩

set_option maxRecDepth 100000 in
set_option maxHeartbeats 4000000 in
theorem o_Of_msg_told (e : Bool) (s l : ByteArray) (w : World) (h0 h1 h3 h5 h6 : Int) (h2 : Bool) (h7 : ByteArray) (m0 m1 m2 id : Int) (m3 m4 : ByteArray)
    (c1 : ∀ W, Calls Tryz.prog 81 #[.string s] W (Ret (.tuple #[.agg #[.int .u8 h0, .int .u16 h1, .bool h2, .int .u8 h3, .int .u8 1, .int .u32 h5, .int .u32 h6, .string h7], .string l, .int .i64 0]) W))
    (c2 : ∀ W, Calls Tryz.prog 84 #[.string l] W (Ret (.tuple #[.agg #[.int .u8 m0, .int .u8 m1, .int .u16 m2, .string m3, .string m4], .bool true]) W))
    (c3 : ∀ W, Calls Tryz.prog 85 #[.agg #[.int .u8 m0, .int .u8 m1, .int .u16 m2, .string m3, .string m4]] W (Ret (.tuple #[.bool false, .bool true]) W))
    (c4 : ∀ W, Calls Tryz.prog 86 #[.agg #[.int .u8 m0, .int .u8 m1, .int .u16 m2, .string m3, .string m4]] W (Ret (.bool e) W))
    (c5 : ∀ W, Calls Tryz.prog 87 #[.agg #[.int .u8 m0, .int .u8 m1, .int .u16 m2, .string m3, .string m4]] W (Ret (.int .u16 id) W)) :
    Calls Tryz.prog 37 #[.string s] w (Ret (.tuple #[.agg #[.int .u8 1, .int .u32 h5, .int .u16 0, .int .u32 h6, .int .u16 id, .int .i64 2, .int .u8 0, .bool false, .int .u8 h3], .int .i64 0]) w) := by
  have C1 := hide c1; have C2 := hide c2; have C3 := hide c3; have C4 := hide c4; have C5 := hide c5
  clear c1 c2 c3 c4 c5
  go_enter Tryz.func37, Tryz.ntmps37
  have d0 := Cells.new w #[.int .u8 0, .int .u32 0, .int .u16 0, .int .u32 0, .int .u16 0, .int .i64 0, .int .u8 0, .bool false, .int .u8 0] 40
  go_wp2_with fail
  (with_reducible refine (C1.out _).mono ?_)
  rintro e w1 ⟨rfl, b1⟩
  have d1 := Cells.below b1 d0
  have e1 := Cells.new w1 #[.int .u8 h0, .int .u16 h1, .bool h2, .int .u8 h3, .int .u8 1, .int .u32 h5, .int .u32 h6, .string h7] 160
  obtain ⟨xe1_0, xe1_1, xe1_2, xe1_3, xe1_4, xe1_5, xe1_6, xe1_7⟩ := e1.x8
  have d3 := Cells.alloc (Cells.alloc d1 (.cells #[.int .u8 h0, .int .u16 h1, .bool h2, .int .u8 h3, .int .u8 1, .int .u32 h5, .int .u32 h6, .string h7] 160)) (.cells #[.int .u8 1, .int .u32 h5, .int .u16 0, .int .u32 h6, .int .u16 0, .int .i64 2, .int .u8 0, .bool false, .int .u8 h3] 40)
  have e3 := Cells.alloc e1 (.cells #[.int .u8 1, .int .u32 h5, .int .u16 0, .int .u32 h6, .int .u16 0, .int .i64 2, .int .u8 0, .bool false, .int .u8 h3] 40)
  have xe3_4 : (((w1.alloc (.cells #[.int .u8 h0, .int .u16 h1, .bool h2, .int .u8 h3, .int .u8 1, .int .u32 h5, .int .u32 h6, .string h7] 160)).alloc (.cells #[.int .u8 1, .int .u32 h5, .int .u16 0, .int .u32 h6, .int .u16 0, .int .i64 2, .int .u8 0, .bool false, .int .u8 h3] 40))).cell? ⟨w1.heap.size, 4, none⟩ = some (.int .u8 1) := e3.at_ 4
  have x3 : Cells ((w1.alloc (.cells #[.int .u8 h0, .int .u16 h1, .bool h2, .int .u8 h3, .int .u8 1, .int .u32 h5, .int .u32 h6, .string h7] 160)).alloc (.cells #[.int .u8 1, .int .u32 h5, .int .u16 0, .int .u32 h6, .int .u16 0, .int .i64 2, .int .u8 0, .bool false, .int .u8 h3] 40)) (w1.heap.size + 1) #[.int .u8 1, .int .u32 h5, .int .u16 0, .int .u32 h6, .int .u16 0, .int .i64 2, .int .u8 0, .bool false, .int .u8 h3] 40 := by
    have := Cells.new (w1.alloc (.cells #[.int .u8 h0, .int .u16 h1, .bool h2, .int .u8 h3, .int .u8 1, .int .u32 h5, .int .u32 h6, .string h7] 160)) #[.int .u8 1, .int .u32 h5, .int .u16 0, .int .u32 h6, .int .u16 0, .int .i64 2, .int .u8 0, .bool false, .int .u8 h3] 40
    rw [show (w1.alloc (.cells #[.int .u8 h0, .int .u16 h1, .bool h2, .int .u8 h3, .int .u8 1, .int .u32 h5, .int .u32 h6, .string h7] 160)).heap.size = w1.heap.size + 1 from by simp] at this
    exact this
  have b3 : Below w.heap.size w ((w1.alloc (.cells #[.int .u8 h0, .int .u16 h1, .bool h2, .int .u8 h3, .int .u8 1, .int .u32 h5, .int .u32 h6, .string h7] 160)).alloc (.cells #[.int .u8 1, .int .u32 h5, .int .u16 0, .int .u32 h6, .int .u16 0, .int .i64 2, .int .u8 0, .bool false, .int .u8 h3] 40)) := bstep (bstep (bstep (fresh_below _ _) b1) (fresh_below _ _)) (fresh_below _ _)
  have hlt : w.heap.size ≠ w1.heap.size + 1 := by have := d1.lt; omega
  have hle : w.heap.size ≤ w1.heap.size + 1 := by have := d1.lt; omega
  have D3 := hide d3; have X3 := hide x3; have B3 := hide b3; have HN := hide hlt; have HL := hide hle
  clear d0 d1 e1 d3 e3 x3 b3 b1 hlt hle
  go_wp2_with fail
  (with_reducible refine (C2.out _).mono ?_)
  rintro e w4 ⟨rfl, b4⟩
  have d4 := Cells.alloc (Cells.below b4 D3.out) (.cells #[.int .u8 m0, .int .u8 m1, .int .u16 m2, .string m3, .string m4] 164)
  have x4 := Cells.alloc (Cells.below b4 X3.out) (.cells #[.int .u8 m0, .int .u8 m1, .int .u16 m2, .string m3, .string m4] 164)
  have e4 := Cells.new w4 #[.int .u8 m0, .int .u8 m1, .int .u16 m2, .string m3, .string m4] 164
  have b5 : Below w.heap.size w (w4.alloc (.cells #[.int .u8 m0, .int .u8 m1, .int .u16 m2, .string m3, .string m4] 164)) := bstep (bstep B3.out b4) (fresh_below _ _)
  have hgw : w4.heap.size ≠ w.heap.size := by have := (Cells.below b4 D3.out).lt; omega
  have hgx : w4.heap.size ≠ w1.heap.size + 1 := by have := (Cells.below b4 X3.out).lt; omega
  have HGW := hide hgw; have HGX := hide hgx
  clear D3 X3 B3 b4 C1 C2 hgw hgx
  obtain ⟨xe4_0, xe4_1, xe4_2, xe4_3, xe4_4⟩ := e4.x5
  have E4 := hide e4; have X4 := hide x4; have D4 := hide d4; have B5 := hide b5
  clear d4 b5 x4 e4
  go_wp2_with fail
  (with_reducible refine (C3.out _).mono ?_)
  rintro e w6 ⟨rfl, b6⟩
  have d6 := Cells.below b6 D4.out
  have x6 := Cells.below b6 X4.out
  have e6 := Cells.below b6 E4.out
  have bb6 : Below w.heap.size w w6 := bstep B5.out b6
  clear E4 X4 D4 B5 b6
  obtain ⟨xx6_0, xx6_1, xx6_2, xx6_3, xx6_4, xx6_5, xx6_6, xx6_7, xx6_8⟩ := x6.x9
  obtain ⟨yx6_0, yx6_1, yx6_2, yx6_3, yx6_4, yx6_5, yx6_6, yx6_7, yx6_8⟩ := x6.y9
  have x8 : Cells (w6.setCell ⟨w1.heap.size + 1, 7, none⟩ (.bool false)) (w1.heap.size + 1) #[.int .u8 1, .int .u32 h5, .int .u16 0, .int .u32 h6, .int .u16 0, .int .i64 2, .int .u8 0, .bool false, .int .u8 h3] 40 := x6.set_ 7 (.bool false)
  have d8 := d6.other HN.out 7 (.bool false)
  have e8 := e6.other HGX.out 7 (.bool false)
  have b8 : Below w.heap.size w (w6.setCell ⟨w1.heap.size + 1, 7, none⟩ (.bool false)) := Below.setCell bb6 (by have := HL.out; dsimp only; omega) _
  obtain ⟨xe8_0, xe8_1, xe8_2, xe8_3, xe8_4⟩ := e8.x5
  have E8 := hide e8; have X8 := hide x8; have D8 := hide d8; have B8 := hide b8
  clear d6 x6 e6 bb6 d8 x8 e8 b8
  go_wp2_with fail
  (with_reducible refine (C5.out _).mono ?_)
  rintro e w9 ⟨rfl, b9⟩
  have d9 := Cells.below b9 D8.out
  have x9 := Cells.below b9 X8.out
  have e9 := Cells.below b9 E8.out
  have bb9 : Below w.heap.size w w9 := bstep B8.out b9
  clear E8 X8 D8 B8 b9
  obtain ⟨xx9_0, xx9_1, xx9_2, xx9_3, xx9_4, xx9_5, xx9_6, xx9_7, xx9_8⟩ := x9.x9
  obtain ⟨yx9_0, yx9_1, yx9_2, yx9_3, yx9_4, yx9_5, yx9_6, yx9_7, yx9_8⟩ := x9.y9
  have x10 : Cells (w9.setCell ⟨w1.heap.size + 1, 4, none⟩ (.int .u16 id)) (w1.heap.size + 1) #[.int .u8 1, .int .u32 h5, .int .u16 0, .int .u32 h6, .int .u16 id, .int .i64 2, .int .u8 0, .bool false, .int .u8 h3] 40 := x9.set_ 4 (.int .u16 id)
  have d10 := d9.other HN.out 4 (.int .u16 id)
  have e10 := e9.other HGX.out 4 (.int .u16 id)
  have b10 : Below w.heap.size w (w9.setCell ⟨w1.heap.size + 1, 4, none⟩ (.int .u16 id)) := Below.setCell bb9 (by have := HL.out; dsimp only; omega) _
  obtain ⟨xx10_0, xx10_1, xx10_2, xx10_3, xx10_4, xx10_5, xx10_6, xx10_7, xx10_8⟩ := x10.x9
  obtain ⟨xd10_0, xd10_1, xd10_2, xd10_3, xd10_4, xd10_5, xd10_6, xd10_7, xd10_8⟩ := d10.x9
  obtain ⟨yd10_0, yd10_1, yd10_2, yd10_3, yd10_4, yd10_5, yd10_6, yd10_7, yd10_8⟩ := d10.y9
  have D10 := hide d10; have B10 := hide b10
  clear d9 x9 e9 bb9 d10 x10 e10 b10
  go_wp2_with fail
  have d10 := D10.out; have b10 := B10.out; have hle := HL.out
  generalize (w9.setCell ⟨w1.heap.size + 1, 4, none⟩ (.int .u16 id)) = W10 at *
  have r5 := (Cells.put9 d10 (.int .u8 1) (.int .u32 h5) (.int .u16 0) (.int .u32 h6) (.int .u16 id) (.int .i64 2) (.int .u8 0) (.bool false) (.int .u8 h3))
  have b5 := (Below.put9 b10 (b := w.heap.size) (by first | exact Nat.le_refl _ | omega) (.int .u8 1) (.int .u32 h5) (.int .u16 0) (.int .u32 h6) (.int .u16 id) (.int .i64 2) (.int .u8 0) (.bool false) (.int .u8 h3))
  have HR5 := hide r5; have HB5 := hide b5
  clear r5 b5 d10
  generalize (((((((((W10.setCell ⟨w.heap.size, 0, none⟩ (.int .u8 1)).setCell ⟨w.heap.size, 1, none⟩ (.int .u32 h5)).setCell ⟨w.heap.size, 2, none⟩ (.int .u16 0)).setCell ⟨w.heap.size, 3, none⟩ (.int .u32 h6)).setCell ⟨w.heap.size, 4, none⟩ (.int .u16 id)).setCell ⟨w.heap.size, 5, none⟩ (.int .i64 2)).setCell ⟨w.heap.size, 6, none⟩ (.int .u8 0)).setCell ⟨w.heap.size, 7, none⟩ (.bool false)).setCell ⟨w.heap.size, 8, none⟩ (.int .u8 h3)) = W5 at *
  have r5 := HR5.out; have b5 := HB5.out
  clear HR5 HB5
  obtain ⟨xr5_0, xr5_1, xr5_2, xr5_3, xr5_4, xr5_5, xr5_6, xr5_7, xr5_8⟩ := r5.x9
  (try simp only [Exit.inBlock, Exit.then]); refine bodyPost_ret (by simp [results, Tryz.results37, go_sem, *]; try rfl) rfl ?_
  first | exact ⟨rfl, b5⟩ | exact ⟨rfl, b5.drew⟩
end Go.Proofs.YtilfcikhipadpaaGreatDoor
end

section
/- The document's answer for what is seen of a packet (porterref08.Of), over this program: the same as the program's. -/
set_option linter.unusedVariables false
set_option linter.unusedSimpArgs false
namespace Go.Proofs.YtilfcikhipadpaaGreatDoor
open Go.RowKit

theorem o_Of (s : ByteArray) (w : World) (hs : s.size ≤ 140737488351232) :
    Calls Tryz.prog 37 #[.string s] w (Ret (.tuple #[.agg (seenOf s).cells, .int .i64 (seenWhy s)]) w) := by
  have c1 := fun W => r4_Parse s W hs
  by_cases hw : ipWhy s = 0
  · have hr : (ipRest s).size ≤ 140737488351232 := by unfold ipRest; rw [if_pos hw, ByteArray.size_extract]; omega
    rw [show hdRes s = hdOf s from by unfold hdRes; rw [if_pos hw], hw] at c1
    have e1 : seenWhy s = loadWhy (hdOf s).p (ipRest s) := by unfold seenWhy; rw [if_pos hw]
    have e2 : seenOf s = if loadWhy (hdOf s).p (ipRest s) = 0 then loadSeen (hdOf s) (ipRest s) else seenNone := by unfold seenOf; rw [e1]
    rw [e1, e2]
    clear e1 e2 hw
    generalize hdOf s = h at *
    generalize ipRest s = l at *
    obtain ⟨h0, h1, h2, h3, h4, h5, h6, h7⟩ := h
    unfold Hd.cells at c1
    simp only at c1 ⊢
    unfold loadWhy loadSeen
    simp only
    by_cases p6 : h4 = 6
    · subst p6
      rw [if_pos rfl, if_pos rfl]
      by_cases ht : tcpIs l = true
      · rw [if_pos ht, if_pos rfl]
        have c2 := fun W => r6_Parse_yes l W hr ht
        by_cases hk : bits .and .u8 (segOf l).f 23 = 2
        · rw [if_pos hk]; exact o_Of_tcp_first s l w _ _ _ _ _ _ _ _ _ _ _ _ _ _ _ _ _ _ hk c1 c2
        · rw [if_neg hk]; exact o_Of_tcp_flow s l w _ _ _ _ _ _ _ _ _ _ _ _ _ _ _ _ _ _ hk c1 c2
      · rw [if_neg ht, if_neg (by decide)]
        have c2 := fun W => r6_Parse_no l W hr (by simpa using ht)
        exact o_Of_tcp_no s l w _ _ _ _ _ _ _ _ c1 c2
    rw [if_neg p6, if_neg p6]
    by_cases p17 : h4 = 17
    · subst p17
      rw [if_pos rfl, if_pos rfl]
      by_cases ht : udpIs l = true
      · rw [if_pos ht, if_pos rfl]
        have c2 := fun W => r5_Parse_yes l W (by unfold maxLen; omega) ht
        unfold udpHead at c2
        exact o_Of_udp_yes s l w _ _ _ _ _ _ _ _ _ _ _ _ c1 c2
      · rw [if_neg ht, if_neg (by decide)]
        have c2 := fun W => r5_Parse_no l W (by unfold maxLen; omega) (by simpa using ht)
        unfold udpNone at c2
        exact o_Of_udp_no s l w _ _ _ _ _ _ _ _ c1 c2
    rw [if_neg p17, if_neg p17]
    by_cases p1 : h4 = 1
    · subst p1
      rw [if_pos rfl]
      by_cases h8 : l.size < 8
      · rw [if_pos h8, if_neg (by decide)]
        have c2 := fun W => r7_Parse_no l W h8
        exact o_Of_msg_no s l w _ _ _ _ _ _ _ c1 c2
      · rw [if_neg h8]
        have c2 := fun W => r7_Parse_yes l W hr (by omega)
        have c3 := fun W => r7_Query (msgOf l) W
        have c4 := fun W => r7_Error (msgOf l) W
        have ok := msgOf_ok hr
        have c5 := fun W => r7_ID (msgOf l) W ok
        have hai : qAsk (msgOf l) = true → qIs (msgOf l) = true := by
          unfold qAsk qIs; simp; intro a b; exact ⟨a, Or.inl b⟩
        by_cases hq : qIs (msgOf l) = true
        · rw [if_pos (Or.inl hq), if_pos rfl]
          by_cases ha : qAsk (msgOf l) = true
          · rw [if_pos ha]
            rw [ha, hq] at c3
            exact o_Of_msg_ask (qErr (msgOf l)) s l w _ _ _ _ _ _ _ _ _ _ _ _ _ c1 c2 c3 c4 c5
          · rw [if_neg ha, if_pos hq]
            rw [show qAsk (msgOf l) = false from by simpa using ha, hq] at c3
            exact o_Of_msg_told (qErr (msgOf l)) s l w _ _ _ _ _ _ _ _ _ _ _ _ _ c1 c2 c3 c4 c5
        · have hq' : qIs (msgOf l) = false := by simpa using hq
          have ha : qAsk (msgOf l) = false := by
            cases h : qAsk (msgOf l)
            · rfl
            · exact absurd (hai h) hq
          rw [ha, hq'] at c3
          by_cases he : qErr (msgOf l) = true
          · rw [if_pos (Or.inr he), if_pos rfl, if_neg (by rw [ha]; decide), if_neg hq]
            rw [he] at c4
            exact o_Of_msg_err s l w _ _ _ _ _ _ _ _ _ _ _ _ _ c1 c2 c3 c4 c5
          · rw [if_neg (show ¬ (qIs (msgOf l) = true ∨ qErr (msgOf l) = true) by simp [hq', he]), if_neg (show ¬ (6 : Int) = 0 by decide)]
            rw [show qErr (msgOf l) = false from by simpa using he] at c4
            exact o_Of_msg_none s l w _ _ _ _ _ _ _ _ _ _ _ _ _ c1 c2 c3 c4 c5
    · rw [if_neg p1, if_neg (by decide)]
      exact o_Of_other s l w _ _ _ _ _ _ _ _ c1 ⟨p6, p17, p1⟩
  · have e1 : seenWhy s = ipWhy s := by unfold seenWhy; rw [if_neg hw]
    have e2 : seenOf s = seenNone := by unfold seenOf; rw [e1, if_neg hw]
    rw [e1, e2]
    unfold Hd.cells at c1
    exact o_Of_bad s _ w _ _ _ _ _ _ _ _ _ hw c1
end Go.Proofs.YtilfcikhipadpaaGreatDoor
end
