/- Several texts of this claim, one behind the other. -/
import Derived.Test.YtilfcikhipadpaaDoorM4
import Derived.Shelf.RegionOpenPlain
import Derived.WalkKit
import Derived.Lib.Walk
import Derived.Lib.SliceRun
import Derived.Lib.JoinLaws
import Derived.Lib.AppendZeros
import Derived.Lib.Overlaps
import Derived.Laws.Externs
import Derived.Laws.IdiomCopy
import Derived.Deep.AppendSrc

section
/- rules: a rule stored whole; whole, clash. -/
set_option linter.unusedVariables false
set_option linter.unusedSimpArgs false
namespace Go.Proofs.YtilfcikhipadpaaDoor
open Go.RowKit
attribute [local go_sem] Oper.semAt_some

theorem Cells.put11 {w : World} {b : Nat} {a0 a1 a2 a3 a4 a5 a6 a7 a8 a9 a10 : Value} {T : TypeId} (h : Cells w b #[a0, a1, a2, a3, a4, a5, a6, a7, a8, a9, a10] T) (v0 v1 v2 v3 v4 v5 v6 v7 v8 v9 v10 : Value) : Cells (((((((((((w.setCell ⟨b, 0, none⟩ v0).setCell ⟨b, 1, none⟩ v1).setCell ⟨b, 2, none⟩ v2).setCell ⟨b, 3, none⟩ v3).setCell ⟨b, 4, none⟩ v4).setCell ⟨b, 5, none⟩ v5).setCell ⟨b, 6, none⟩ v6).setCell ⟨b, 7, none⟩ v7).setCell ⟨b, 8, none⟩ v8).setCell ⟨b, 9, none⟩ v9).setCell ⟨b, 10, none⟩ v10) b #[v0, v1, v2, v3, v4, v5, v6, v7, v8, v9, v10] T := by
  have h0 : Cells (w.setCell ⟨b, 0, none⟩ v0) b #[v0, a1, a2, a3, a4, a5, a6, a7, a8, a9, a10] T := h.set_ 0 v0
  have h1 : Cells ((w.setCell ⟨b, 0, none⟩ v0).setCell ⟨b, 1, none⟩ v1) b #[v0, v1, a2, a3, a4, a5, a6, a7, a8, a9, a10] T := h0.set_ 1 v1
  have h2 : Cells (((w.setCell ⟨b, 0, none⟩ v0).setCell ⟨b, 1, none⟩ v1).setCell ⟨b, 2, none⟩ v2) b #[v0, v1, v2, a3, a4, a5, a6, a7, a8, a9, a10] T := h1.set_ 2 v2
  have h3 : Cells ((((w.setCell ⟨b, 0, none⟩ v0).setCell ⟨b, 1, none⟩ v1).setCell ⟨b, 2, none⟩ v2).setCell ⟨b, 3, none⟩ v3) b #[v0, v1, v2, v3, a4, a5, a6, a7, a8, a9, a10] T := h2.set_ 3 v3
  have h4 : Cells (((((w.setCell ⟨b, 0, none⟩ v0).setCell ⟨b, 1, none⟩ v1).setCell ⟨b, 2, none⟩ v2).setCell ⟨b, 3, none⟩ v3).setCell ⟨b, 4, none⟩ v4) b #[v0, v1, v2, v3, v4, a5, a6, a7, a8, a9, a10] T := h3.set_ 4 v4
  have h5 : Cells ((((((w.setCell ⟨b, 0, none⟩ v0).setCell ⟨b, 1, none⟩ v1).setCell ⟨b, 2, none⟩ v2).setCell ⟨b, 3, none⟩ v3).setCell ⟨b, 4, none⟩ v4).setCell ⟨b, 5, none⟩ v5) b #[v0, v1, v2, v3, v4, v5, a6, a7, a8, a9, a10] T := h4.set_ 5 v5
  have h6 : Cells (((((((w.setCell ⟨b, 0, none⟩ v0).setCell ⟨b, 1, none⟩ v1).setCell ⟨b, 2, none⟩ v2).setCell ⟨b, 3, none⟩ v3).setCell ⟨b, 4, none⟩ v4).setCell ⟨b, 5, none⟩ v5).setCell ⟨b, 6, none⟩ v6) b #[v0, v1, v2, v3, v4, v5, v6, a7, a8, a9, a10] T := h5.set_ 6 v6
  have h7 : Cells ((((((((w.setCell ⟨b, 0, none⟩ v0).setCell ⟨b, 1, none⟩ v1).setCell ⟨b, 2, none⟩ v2).setCell ⟨b, 3, none⟩ v3).setCell ⟨b, 4, none⟩ v4).setCell ⟨b, 5, none⟩ v5).setCell ⟨b, 6, none⟩ v6).setCell ⟨b, 7, none⟩ v7) b #[v0, v1, v2, v3, v4, v5, v6, v7, a8, a9, a10] T := h6.set_ 7 v7
  have h8 : Cells (((((((((w.setCell ⟨b, 0, none⟩ v0).setCell ⟨b, 1, none⟩ v1).setCell ⟨b, 2, none⟩ v2).setCell ⟨b, 3, none⟩ v3).setCell ⟨b, 4, none⟩ v4).setCell ⟨b, 5, none⟩ v5).setCell ⟨b, 6, none⟩ v6).setCell ⟨b, 7, none⟩ v7).setCell ⟨b, 8, none⟩ v8) b #[v0, v1, v2, v3, v4, v5, v6, v7, v8, a9, a10] T := h7.set_ 8 v8
  have h9 : Cells ((((((((((w.setCell ⟨b, 0, none⟩ v0).setCell ⟨b, 1, none⟩ v1).setCell ⟨b, 2, none⟩ v2).setCell ⟨b, 3, none⟩ v3).setCell ⟨b, 4, none⟩ v4).setCell ⟨b, 5, none⟩ v5).setCell ⟨b, 6, none⟩ v6).setCell ⟨b, 7, none⟩ v7).setCell ⟨b, 8, none⟩ v8).setCell ⟨b, 9, none⟩ v9) b #[v0, v1, v2, v3, v4, v5, v6, v7, v8, v9, a10] T := h8.set_ 9 v9
  have h10 : Cells (((((((((((w.setCell ⟨b, 0, none⟩ v0).setCell ⟨b, 1, none⟩ v1).setCell ⟨b, 2, none⟩ v2).setCell ⟨b, 3, none⟩ v3).setCell ⟨b, 4, none⟩ v4).setCell ⟨b, 5, none⟩ v5).setCell ⟨b, 6, none⟩ v6).setCell ⟨b, 7, none⟩ v7).setCell ⟨b, 8, none⟩ v8).setCell ⟨b, 9, none⟩ v9).setCell ⟨b, 10, none⟩ v10) b #[v0, v1, v2, v3, v4, v5, v6, v7, v8, v9, v10] T := h9.set_ 10 v10
  exact h10
theorem Below.put11 {w w' : World} {n b : Nat} (h : Below n w w') (hb : n ≤ b) (v0 v1 v2 v3 v4 v5 v6 v7 v8 v9 v10 : Value) : Below n w (((((((((((w'.setCell ⟨b, 0, none⟩ v0).setCell ⟨b, 1, none⟩ v1).setCell ⟨b, 2, none⟩ v2).setCell ⟨b, 3, none⟩ v3).setCell ⟨b, 4, none⟩ v4).setCell ⟨b, 5, none⟩ v5).setCell ⟨b, 6, none⟩ v6).setCell ⟨b, 7, none⟩ v7).setCell ⟨b, 8, none⟩ v8).setCell ⟨b, 9, none⟩ v9).setCell ⟨b, 10, none⟩ v10) := (Below.setCell (Below.setCell (Below.setCell (Below.setCell (Below.setCell (Below.setCell (Below.setCell (Below.setCell (Below.setCell (Below.setCell (Below.setCell h (p := ⟨b, 0, none⟩) hb v0) (p := ⟨b, 1, none⟩) hb v1) (p := ⟨b, 2, none⟩) hb v2) (p := ⟨b, 3, none⟩) hb v3) (p := ⟨b, 4, none⟩) hb v4) (p := ⟨b, 5, none⟩) hb v5) (p := ⟨b, 6, none⟩) hb v6) (p := ⟨b, 7, none⟩) hb v7) (p := ⟨b, 8, none⟩) hb v8) (p := ⟨b, 9, none⟩) hb v9) (p := ⟨b, 10, none⟩) hb v10)
theorem Cells.far11 {w : World} {b b' : Nat} {cs : Array Value} {T : TypeId} (h : Cells w b cs T) (hb : b ≠ b') (v0 v1 v2 v3 v4 v5 v6 v7 v8 v9 v10 : Value) : Cells (((((((((((w.setCell ⟨b', 0, none⟩ v0).setCell ⟨b', 1, none⟩ v1).setCell ⟨b', 2, none⟩ v2).setCell ⟨b', 3, none⟩ v3).setCell ⟨b', 4, none⟩ v4).setCell ⟨b', 5, none⟩ v5).setCell ⟨b', 6, none⟩ v6).setCell ⟨b', 7, none⟩ v7).setCell ⟨b', 8, none⟩ v8).setCell ⟨b', 9, none⟩ v9).setCell ⟨b', 10, none⟩ v10) b cs T := (Cells.other (Cells.other (Cells.other (Cells.other (Cells.other (Cells.other (Cells.other (Cells.other (Cells.other (Cells.other (Cells.other h hb 0 v0) hb 1 v1) hb 2 v2) hb 3 v3) hb 4 v4) hb 5 v5) hb 6 v6) hb 7 v7) hb 8 v8) hb 9 v9) hb 10 v10)

/-- a rule with its outer address -/
def wholeR (o : Int) (r : Rule) : Rule := if r.k = 2 then { r with e := o } else r
def clash0 (a b : Rule) : Bool := (decide (a.k = 3) && !(decide (b.p ≠ a.p) && (decide (b.p ≠ 0) || decide (b.k = 3)))) && ((decide (b.k = 3) && (decide (a.ia = b.ia) && decide (a.ip = b.ip))) || (decide (a.e = b.e) && decide (b.f ≤ a.f) && decide (a.f ≤ b.t)))
/-- can two rules not stand beside each other -/
def clashR (a b : Rule) : Bool := if a.k = 3 then clash0 a b else clash0 b a

set_option maxRecDepth 100000 in
set_option maxHeartbeats 4000000 in
theorem t_whole_two (w : World) (B : Nat) (o ip b : Int) (v : Value) (r : Rule) (h : Tbl w B o ip b v) (q1 : (r.k == 2) = true) :
    Calls Tryd.prog 34 #[.pointer (some ⟨B, 0, none⟩), .agg #[.int .i64 r.k, .int .u8 r.p, .int .u32 r.sa, .int .i64 r.sb, .int .u32 r.da, .int .i64 r.db, .int .u32 r.e, .int .u16 r.f, .int .u16 r.t, .int .u32 r.ia, .int .u16 r.ip]] w (Ret (.agg #[.int .i64 r.k, .int .u8 r.p, .int .u32 r.sa, .int .i64 r.sb, .int .u32 r.da, .int .i64 r.db, .int .u32 o, .int .u16 r.f, .int .u16 r.t, .int .u32 r.ia, .int .u16 r.ip]) w) := by
  have H := hide h
  clear h
  go_enter Tryd.func34, Tryd.ntmps34
  have d := Cells.new w #[.int .i64 r.k, .int .u8 r.p, .int .u32 r.sa, .int .i64 r.sb, .int .u32 r.da, .int .i64 r.db, .int .u32 r.e, .int .u16 r.f, .int .u16 r.t, .int .u32 r.ia, .int .u16 r.ip] 77
  replace d := Cells.below (fresh_below (w.alloc (.cells #[.int .i64 r.k, .int .u8 r.p, .int .u32 r.sa, .int .i64 r.sb, .int .u32 r.da, .int .i64 r.db, .int .u32 r.e, .int .u16 r.f, .int .u16 r.t, .int .u32 r.ia, .int .u16 r.ip] 77)) (.cells #[.int .i64 0, .int .u8 0, .int .u32 0, .int .i64 0, .int .u32 0, .int .i64 0, .int .u32 0, .int .u16 0, .int .u16 0, .int .u32 0, .int .u16 0] 77)) d
  have e := Cells.new (w.alloc (.cells #[.int .i64 r.k, .int .u8 r.p, .int .u32 r.sa, .int .i64 r.sb, .int .u32 r.da, .int .i64 r.db, .int .u32 r.e, .int .u16 r.f, .int .u16 r.t, .int .u32 r.ia, .int .u16 r.ip] 77)) #[.int .i64 0, .int .u8 0, .int .u32 0, .int .i64 0, .int .u32 0, .int .i64 0, .int .u32 0, .int .u16 0, .int .u16 0, .int .u32 0, .int .u16 0] 77
  have l0 : Below w.heap.size w ((w.alloc (.cells #[.int .i64 r.k, .int .u8 r.p, .int .u32 r.sa, .int .i64 r.sb, .int .u32 r.da, .int .i64 r.db, .int .u32 r.e, .int .u16 r.f, .int .u16 r.t, .int .u32 r.ia, .int .u16 r.ip] 77)).alloc (.cells #[.int .i64 0, .int .u8 0, .int .u32 0, .int .i64 0, .int .u32 0, .int .i64 0, .int .u32 0, .int .u16 0, .int .u16 0, .int .u32 0, .int .u16 0] 77)) := bstep (fresh_below _ _) (fresh_below _ _)
  rw [World.size_alloc] at e
  have L0 := hide l0; have D0 := hide d; have E0 := hide e
  clear l0 d e
  go_upto_region 1 with fail
  have l0 := L0.out; have d := D0.out; have e := E0.out
  clear L0 D0 E0
  generalize ((w.alloc (.cells #[.int .i64 r.k, .int .u8 r.p, .int .u32 r.sa, .int .i64 r.sb, .int .u32 r.da, .int .i64 r.db, .int .u32 r.e, .int .u16 r.f, .int .u16 r.t, .int .u32 r.ia, .int .u16 r.ip] 77)).alloc (.cells #[.int .i64 0, .int .u8 0, .int .u32 0, .int .i64 0, .int .u32 0, .int .i64 0, .int .u32 0, .int .u16 0, .int .u16 0, .int .u32 0, .int .u16 0] 77)) = w1 at *
  have xB : w1.cell? ⟨B, 1, none⟩ = some (.int .u32 o) := Cells.at_ (Tbl.below H.out l0) 1
  have xd_0 : w1.cell? ⟨w.heap.size, 0, none⟩ = some (.int .i64 r.k) := d.at_ 0
  have xd_1 : w1.cell? ⟨w.heap.size, 1, none⟩ = some (.int .u8 r.p) := d.at_ 1
  have xd_2 : w1.cell? ⟨w.heap.size, 2, none⟩ = some (.int .u32 r.sa) := d.at_ 2
  have xd_3 : w1.cell? ⟨w.heap.size, 3, none⟩ = some (.int .i64 r.sb) := d.at_ 3
  have xd_4 : w1.cell? ⟨w.heap.size, 4, none⟩ = some (.int .u32 r.da) := d.at_ 4
  have xd_5 : w1.cell? ⟨w.heap.size, 5, none⟩ = some (.int .i64 r.db) := d.at_ 5
  have xd_6 : w1.cell? ⟨w.heap.size, 6, none⟩ = some (.int .u32 r.e) := d.at_ 6
  have xd_7 : w1.cell? ⟨w.heap.size, 7, none⟩ = some (.int .u16 r.f) := d.at_ 7
  have xd_8 : w1.cell? ⟨w.heap.size, 8, none⟩ = some (.int .u16 r.t) := d.at_ 8
  have xd_9 : w1.cell? ⟨w.heap.size, 9, none⟩ = some (.int .u32 r.ia) := d.at_ 9
  have xd_10 : w1.cell? ⟨w.heap.size, 10, none⟩ = some (.int .u16 r.ip) := d.at_ 10
  have yd_0 : w1.frozen? ⟨w.heap.size, 0, none⟩ = false := d.free 0
  have yd_1 : w1.frozen? ⟨w.heap.size, 1, none⟩ = false := d.free 1
  have yd_2 : w1.frozen? ⟨w.heap.size, 2, none⟩ = false := d.free 2
  have yd_3 : w1.frozen? ⟨w.heap.size, 3, none⟩ = false := d.free 3
  have yd_4 : w1.frozen? ⟨w.heap.size, 4, none⟩ = false := d.free 4
  have yd_5 : w1.frozen? ⟨w.heap.size, 5, none⟩ = false := d.free 5
  have yd_6 : w1.frozen? ⟨w.heap.size, 6, none⟩ = false := d.free 6
  have yd_7 : w1.frozen? ⟨w.heap.size, 7, none⟩ = false := d.free 7
  have yd_8 : w1.frozen? ⟨w.heap.size, 8, none⟩ = false := d.free 8
  have yd_9 : w1.frozen? ⟨w.heap.size, 9, none⟩ = false := d.free 9
  have yd_10 : w1.frozen? ⟨w.heap.size, 10, none⟩ = false := d.free 10
  have D0 := hide d; have E0 := hide e; have L0 := hide l0
  clear d e l0
  go_upto_region 3 with fail
  have d : Cells (w1.setCell ⟨w.heap.size, 6, none⟩ (.int .u32 o)) w.heap.size #[.int .i64 r.k, .int .u8 r.p, .int .u32 r.sa, .int .i64 r.sb, .int .u32 r.da, .int .i64 r.db, .int .u32 o, .int .u16 r.f, .int .u16 r.t, .int .u32 r.ia, .int .u16 r.ip] 77 := D0.out.set_ 6 (.int .u32 o)
  have e := E0.out.other (show w.heap.size + 1 ≠ w.heap.size by omega) 6 (.int .u32 o)
  have l0 : Below w.heap.size w (w1.setCell ⟨w.heap.size, 6, none⟩ (.int .u32 o)) := Below.setCell L0.out (Nat.le_refl _) _
  clear D0 E0 L0 xd_0 xd_1 xd_2 xd_3 xd_4 xd_5 xd_6 xd_7 xd_8 xd_9 xd_10 yd_0 yd_1 yd_2 yd_3 yd_4 yd_5 yd_6 yd_7 yd_8 yd_9 yd_10 xB
  generalize w1.setCell ⟨w.heap.size, 6, none⟩ (.int .u32 o) = w2 at *
  have xd_0 : w2.cell? ⟨w.heap.size, 0, none⟩ = some (.int .i64 r.k) := d.at_ 0
  have xd_1 : w2.cell? ⟨w.heap.size, 1, none⟩ = some (.int .u8 r.p) := d.at_ 1
  have xd_2 : w2.cell? ⟨w.heap.size, 2, none⟩ = some (.int .u32 r.sa) := d.at_ 2
  have xd_3 : w2.cell? ⟨w.heap.size, 3, none⟩ = some (.int .i64 r.sb) := d.at_ 3
  have xd_4 : w2.cell? ⟨w.heap.size, 4, none⟩ = some (.int .u32 r.da) := d.at_ 4
  have xd_5 : w2.cell? ⟨w.heap.size, 5, none⟩ = some (.int .i64 r.db) := d.at_ 5
  have xd_6 : w2.cell? ⟨w.heap.size, 6, none⟩ = some (.int .u32 o) := d.at_ 6
  have xd_7 : w2.cell? ⟨w.heap.size, 7, none⟩ = some (.int .u16 r.f) := d.at_ 7
  have xd_8 : w2.cell? ⟨w.heap.size, 8, none⟩ = some (.int .u16 r.t) := d.at_ 8
  have xd_9 : w2.cell? ⟨w.heap.size, 9, none⟩ = some (.int .u32 r.ia) := d.at_ 9
  have xd_10 : w2.cell? ⟨w.heap.size, 10, none⟩ = some (.int .u16 r.ip) := d.at_ 10
  have xe_0 : w2.cell? ⟨w.heap.size + 1, 0, none⟩ = some (.int .i64 0) := e.at_ 0
  have xe_1 : w2.cell? ⟨w.heap.size + 1, 1, none⟩ = some (.int .u8 0) := e.at_ 1
  have xe_2 : w2.cell? ⟨w.heap.size + 1, 2, none⟩ = some (.int .u32 0) := e.at_ 2
  have xe_3 : w2.cell? ⟨w.heap.size + 1, 3, none⟩ = some (.int .i64 0) := e.at_ 3
  have xe_4 : w2.cell? ⟨w.heap.size + 1, 4, none⟩ = some (.int .u32 0) := e.at_ 4
  have xe_5 : w2.cell? ⟨w.heap.size + 1, 5, none⟩ = some (.int .i64 0) := e.at_ 5
  have xe_6 : w2.cell? ⟨w.heap.size + 1, 6, none⟩ = some (.int .u32 0) := e.at_ 6
  have xe_7 : w2.cell? ⟨w.heap.size + 1, 7, none⟩ = some (.int .u16 0) := e.at_ 7
  have xe_8 : w2.cell? ⟨w.heap.size + 1, 8, none⟩ = some (.int .u16 0) := e.at_ 8
  have xe_9 : w2.cell? ⟨w.heap.size + 1, 9, none⟩ = some (.int .u32 0) := e.at_ 9
  have xe_10 : w2.cell? ⟨w.heap.size + 1, 10, none⟩ = some (.int .u16 0) := e.at_ 10
  have ye_0 : w2.frozen? ⟨w.heap.size + 1, 0, none⟩ = false := e.free 0
  have ye_1 : w2.frozen? ⟨w.heap.size + 1, 1, none⟩ = false := e.free 1
  have ye_2 : w2.frozen? ⟨w.heap.size + 1, 2, none⟩ = false := e.free 2
  have ye_3 : w2.frozen? ⟨w.heap.size + 1, 3, none⟩ = false := e.free 3
  have ye_4 : w2.frozen? ⟨w.heap.size + 1, 4, none⟩ = false := e.free 4
  have ye_5 : w2.frozen? ⟨w.heap.size + 1, 5, none⟩ = false := e.free 5
  have ye_6 : w2.frozen? ⟨w.heap.size + 1, 6, none⟩ = false := e.free 6
  have ye_7 : w2.frozen? ⟨w.heap.size + 1, 7, none⟩ = false := e.free 7
  have ye_8 : w2.frozen? ⟨w.heap.size + 1, 8, none⟩ = false := e.free 8
  have ye_9 : w2.frozen? ⟨w.heap.size + 1, 9, none⟩ = false := e.free 9
  have ye_10 : w2.frozen? ⟨w.heap.size + 1, 10, none⟩ = false := e.free 10
  have E0 := hide e; have L0 := hide l0
  clear d e l0
  go_wp2_with fail
  have e := E0.out; have l0 := L0.out
  have r5 := (Cells.put11 e (.int .i64 r.k) (.int .u8 r.p) (.int .u32 r.sa) (.int .i64 r.sb) (.int .u32 r.da) (.int .i64 r.db) (.int .u32 o) (.int .u16 r.f) (.int .u16 r.t) (.int .u32 r.ia) (.int .u16 r.ip))
  have b5 := (Below.put11 l0 (b := w.heap.size + 1) (by first | exact Nat.le_refl _ | omega) (.int .i64 r.k) (.int .u8 r.p) (.int .u32 r.sa) (.int .i64 r.sb) (.int .u32 r.da) (.int .i64 r.db) (.int .u32 o) (.int .u16 r.f) (.int .u16 r.t) (.int .u32 r.ia) (.int .u16 r.ip))
  have HR5 := hide r5; have HB5 := hide b5
  clear r5 b5 e
  generalize (((((((((((w2.setCell ⟨w.heap.size + 1, 0, none⟩ (.int .i64 r.k)).setCell ⟨w.heap.size + 1, 1, none⟩ (.int .u8 r.p)).setCell ⟨w.heap.size + 1, 2, none⟩ (.int .u32 r.sa)).setCell ⟨w.heap.size + 1, 3, none⟩ (.int .i64 r.sb)).setCell ⟨w.heap.size + 1, 4, none⟩ (.int .u32 r.da)).setCell ⟨w.heap.size + 1, 5, none⟩ (.int .i64 r.db)).setCell ⟨w.heap.size + 1, 6, none⟩ (.int .u32 o)).setCell ⟨w.heap.size + 1, 7, none⟩ (.int .u16 r.f)).setCell ⟨w.heap.size + 1, 8, none⟩ (.int .u16 r.t)).setCell ⟨w.heap.size + 1, 9, none⟩ (.int .u32 r.ia)).setCell ⟨w.heap.size + 1, 10, none⟩ (.int .u16 r.ip)) = W5 at *
  have r5 := HR5.out; have b5 := HB5.out
  clear HR5 HB5
  have xr5_0 : W5.cell? ⟨w.heap.size + 1, 0, none⟩ = some (.int .i64 r.k) := r5.at_ 0
  have xr5_1 : W5.cell? ⟨w.heap.size + 1, 1, none⟩ = some (.int .u8 r.p) := r5.at_ 1
  have xr5_2 : W5.cell? ⟨w.heap.size + 1, 2, none⟩ = some (.int .u32 r.sa) := r5.at_ 2
  have xr5_3 : W5.cell? ⟨w.heap.size + 1, 3, none⟩ = some (.int .i64 r.sb) := r5.at_ 3
  have xr5_4 : W5.cell? ⟨w.heap.size + 1, 4, none⟩ = some (.int .u32 r.da) := r5.at_ 4
  have xr5_5 : W5.cell? ⟨w.heap.size + 1, 5, none⟩ = some (.int .i64 r.db) := r5.at_ 5
  have xr5_6 : W5.cell? ⟨w.heap.size + 1, 6, none⟩ = some (.int .u32 o) := r5.at_ 6
  have xr5_7 : W5.cell? ⟨w.heap.size + 1, 7, none⟩ = some (.int .u16 r.f) := r5.at_ 7
  have xr5_8 : W5.cell? ⟨w.heap.size + 1, 8, none⟩ = some (.int .u16 r.t) := r5.at_ 8
  have xr5_9 : W5.cell? ⟨w.heap.size + 1, 9, none⟩ = some (.int .u32 r.ia) := r5.at_ 9
  have xr5_10 : W5.cell? ⟨w.heap.size + 1, 10, none⟩ = some (.int .u16 r.ip) := r5.at_ 10
  (try simp only [Exit.inBlock, Exit.then]); refine bodyPost_ret (by simp [results, Tryd.results34, go_sem, *]; try rfl) rfl ?_
  exact ⟨rfl, b5⟩

set_option maxRecDepth 100000 in
set_option maxHeartbeats 4000000 in
theorem t_whole_no (w : World) (B : Nat) (o ip b : Int) (v : Value) (r : Rule) (h : Tbl w B o ip b v) (q1 : (r.k == 2) = false) :
    Calls Tryd.prog 34 #[.pointer (some ⟨B, 0, none⟩), .agg #[.int .i64 r.k, .int .u8 r.p, .int .u32 r.sa, .int .i64 r.sb, .int .u32 r.da, .int .i64 r.db, .int .u32 r.e, .int .u16 r.f, .int .u16 r.t, .int .u32 r.ia, .int .u16 r.ip]] w (Ret (.agg #[.int .i64 r.k, .int .u8 r.p, .int .u32 r.sa, .int .i64 r.sb, .int .u32 r.da, .int .i64 r.db, .int .u32 r.e, .int .u16 r.f, .int .u16 r.t, .int .u32 r.ia, .int .u16 r.ip]) w) := by
  have H := hide h
  clear h
  go_enter Tryd.func34, Tryd.ntmps34
  have d := Cells.new w #[.int .i64 r.k, .int .u8 r.p, .int .u32 r.sa, .int .i64 r.sb, .int .u32 r.da, .int .i64 r.db, .int .u32 r.e, .int .u16 r.f, .int .u16 r.t, .int .u32 r.ia, .int .u16 r.ip] 77
  replace d := Cells.below (fresh_below (w.alloc (.cells #[.int .i64 r.k, .int .u8 r.p, .int .u32 r.sa, .int .i64 r.sb, .int .u32 r.da, .int .i64 r.db, .int .u32 r.e, .int .u16 r.f, .int .u16 r.t, .int .u32 r.ia, .int .u16 r.ip] 77)) (.cells #[.int .i64 0, .int .u8 0, .int .u32 0, .int .i64 0, .int .u32 0, .int .i64 0, .int .u32 0, .int .u16 0, .int .u16 0, .int .u32 0, .int .u16 0] 77)) d
  have e := Cells.new (w.alloc (.cells #[.int .i64 r.k, .int .u8 r.p, .int .u32 r.sa, .int .i64 r.sb, .int .u32 r.da, .int .i64 r.db, .int .u32 r.e, .int .u16 r.f, .int .u16 r.t, .int .u32 r.ia, .int .u16 r.ip] 77)) #[.int .i64 0, .int .u8 0, .int .u32 0, .int .i64 0, .int .u32 0, .int .i64 0, .int .u32 0, .int .u16 0, .int .u16 0, .int .u32 0, .int .u16 0] 77
  have l0 : Below w.heap.size w ((w.alloc (.cells #[.int .i64 r.k, .int .u8 r.p, .int .u32 r.sa, .int .i64 r.sb, .int .u32 r.da, .int .i64 r.db, .int .u32 r.e, .int .u16 r.f, .int .u16 r.t, .int .u32 r.ia, .int .u16 r.ip] 77)).alloc (.cells #[.int .i64 0, .int .u8 0, .int .u32 0, .int .i64 0, .int .u32 0, .int .i64 0, .int .u32 0, .int .u16 0, .int .u16 0, .int .u32 0, .int .u16 0] 77)) := bstep (fresh_below _ _) (fresh_below _ _)
  rw [World.size_alloc] at e
  have L0 := hide l0; have D0 := hide d; have E0 := hide e
  clear l0 d e
  go_upto_region 1 with fail
  have l0 := L0.out; have d := D0.out; have e := E0.out
  clear L0 D0 E0
  generalize ((w.alloc (.cells #[.int .i64 r.k, .int .u8 r.p, .int .u32 r.sa, .int .i64 r.sb, .int .u32 r.da, .int .i64 r.db, .int .u32 r.e, .int .u16 r.f, .int .u16 r.t, .int .u32 r.ia, .int .u16 r.ip] 77)).alloc (.cells #[.int .i64 0, .int .u8 0, .int .u32 0, .int .i64 0, .int .u32 0, .int .i64 0, .int .u32 0, .int .u16 0, .int .u16 0, .int .u32 0, .int .u16 0] 77)) = w1 at *
  have w2 := w1
  have xd_0 : w1.cell? ⟨w.heap.size, 0, none⟩ = some (.int .i64 r.k) := d.at_ 0
  have xd_1 : w1.cell? ⟨w.heap.size, 1, none⟩ = some (.int .u8 r.p) := d.at_ 1
  have xd_2 : w1.cell? ⟨w.heap.size, 2, none⟩ = some (.int .u32 r.sa) := d.at_ 2
  have xd_3 : w1.cell? ⟨w.heap.size, 3, none⟩ = some (.int .i64 r.sb) := d.at_ 3
  have xd_4 : w1.cell? ⟨w.heap.size, 4, none⟩ = some (.int .u32 r.da) := d.at_ 4
  have xd_5 : w1.cell? ⟨w.heap.size, 5, none⟩ = some (.int .i64 r.db) := d.at_ 5
  have xd_6 : w1.cell? ⟨w.heap.size, 6, none⟩ = some (.int .u32 r.e) := d.at_ 6
  have xd_7 : w1.cell? ⟨w.heap.size, 7, none⟩ = some (.int .u16 r.f) := d.at_ 7
  have xd_8 : w1.cell? ⟨w.heap.size, 8, none⟩ = some (.int .u16 r.t) := d.at_ 8
  have xd_9 : w1.cell? ⟨w.heap.size, 9, none⟩ = some (.int .u32 r.ia) := d.at_ 9
  have xd_10 : w1.cell? ⟨w.heap.size, 10, none⟩ = some (.int .u16 r.ip) := d.at_ 10
  have xe_0 : w1.cell? ⟨w.heap.size + 1, 0, none⟩ = some (.int .i64 0) := e.at_ 0
  have xe_1 : w1.cell? ⟨w.heap.size + 1, 1, none⟩ = some (.int .u8 0) := e.at_ 1
  have xe_2 : w1.cell? ⟨w.heap.size + 1, 2, none⟩ = some (.int .u32 0) := e.at_ 2
  have xe_3 : w1.cell? ⟨w.heap.size + 1, 3, none⟩ = some (.int .i64 0) := e.at_ 3
  have xe_4 : w1.cell? ⟨w.heap.size + 1, 4, none⟩ = some (.int .u32 0) := e.at_ 4
  have xe_5 : w1.cell? ⟨w.heap.size + 1, 5, none⟩ = some (.int .i64 0) := e.at_ 5
  have xe_6 : w1.cell? ⟨w.heap.size + 1, 6, none⟩ = some (.int .u32 0) := e.at_ 6
  have xe_7 : w1.cell? ⟨w.heap.size + 1, 7, none⟩ = some (.int .u16 0) := e.at_ 7
  have xe_8 : w1.cell? ⟨w.heap.size + 1, 8, none⟩ = some (.int .u16 0) := e.at_ 8
  have xe_9 : w1.cell? ⟨w.heap.size + 1, 9, none⟩ = some (.int .u32 0) := e.at_ 9
  have xe_10 : w1.cell? ⟨w.heap.size + 1, 10, none⟩ = some (.int .u16 0) := e.at_ 10
  have ye_0 : w1.frozen? ⟨w.heap.size + 1, 0, none⟩ = false := e.free 0
  have ye_1 : w1.frozen? ⟨w.heap.size + 1, 1, none⟩ = false := e.free 1
  have ye_2 : w1.frozen? ⟨w.heap.size + 1, 2, none⟩ = false := e.free 2
  have ye_3 : w1.frozen? ⟨w.heap.size + 1, 3, none⟩ = false := e.free 3
  have ye_4 : w1.frozen? ⟨w.heap.size + 1, 4, none⟩ = false := e.free 4
  have ye_5 : w1.frozen? ⟨w.heap.size + 1, 5, none⟩ = false := e.free 5
  have ye_6 : w1.frozen? ⟨w.heap.size + 1, 6, none⟩ = false := e.free 6
  have ye_7 : w1.frozen? ⟨w.heap.size + 1, 7, none⟩ = false := e.free 7
  have ye_8 : w1.frozen? ⟨w.heap.size + 1, 8, none⟩ = false := e.free 8
  have ye_9 : w1.frozen? ⟨w.heap.size + 1, 9, none⟩ = false := e.free 9
  have ye_10 : w1.frozen? ⟨w.heap.size + 1, 10, none⟩ = false := e.free 10
  have E0 := hide e; have L0 := hide l0
  clear d e l0
  go_wp2_with fail
  have e := E0.out; have l0 := L0.out
  have r5 := (Cells.put11 e (.int .i64 r.k) (.int .u8 r.p) (.int .u32 r.sa) (.int .i64 r.sb) (.int .u32 r.da) (.int .i64 r.db) (.int .u32 r.e) (.int .u16 r.f) (.int .u16 r.t) (.int .u32 r.ia) (.int .u16 r.ip))
  have b5 := (Below.put11 l0 (b := w.heap.size + 1) (by first | exact Nat.le_refl _ | omega) (.int .i64 r.k) (.int .u8 r.p) (.int .u32 r.sa) (.int .i64 r.sb) (.int .u32 r.da) (.int .i64 r.db) (.int .u32 r.e) (.int .u16 r.f) (.int .u16 r.t) (.int .u32 r.ia) (.int .u16 r.ip))
  have HR5 := hide r5; have HB5 := hide b5
  clear r5 b5 e
  generalize (((((((((((w1.setCell ⟨w.heap.size + 1, 0, none⟩ (.int .i64 r.k)).setCell ⟨w.heap.size + 1, 1, none⟩ (.int .u8 r.p)).setCell ⟨w.heap.size + 1, 2, none⟩ (.int .u32 r.sa)).setCell ⟨w.heap.size + 1, 3, none⟩ (.int .i64 r.sb)).setCell ⟨w.heap.size + 1, 4, none⟩ (.int .u32 r.da)).setCell ⟨w.heap.size + 1, 5, none⟩ (.int .i64 r.db)).setCell ⟨w.heap.size + 1, 6, none⟩ (.int .u32 r.e)).setCell ⟨w.heap.size + 1, 7, none⟩ (.int .u16 r.f)).setCell ⟨w.heap.size + 1, 8, none⟩ (.int .u16 r.t)).setCell ⟨w.heap.size + 1, 9, none⟩ (.int .u32 r.ia)).setCell ⟨w.heap.size + 1, 10, none⟩ (.int .u16 r.ip)) = W5 at *
  have r5 := HR5.out; have b5 := HB5.out
  clear HR5 HB5
  have xr5_0 : W5.cell? ⟨w.heap.size + 1, 0, none⟩ = some (.int .i64 r.k) := r5.at_ 0
  have xr5_1 : W5.cell? ⟨w.heap.size + 1, 1, none⟩ = some (.int .u8 r.p) := r5.at_ 1
  have xr5_2 : W5.cell? ⟨w.heap.size + 1, 2, none⟩ = some (.int .u32 r.sa) := r5.at_ 2
  have xr5_3 : W5.cell? ⟨w.heap.size + 1, 3, none⟩ = some (.int .i64 r.sb) := r5.at_ 3
  have xr5_4 : W5.cell? ⟨w.heap.size + 1, 4, none⟩ = some (.int .u32 r.da) := r5.at_ 4
  have xr5_5 : W5.cell? ⟨w.heap.size + 1, 5, none⟩ = some (.int .i64 r.db) := r5.at_ 5
  have xr5_6 : W5.cell? ⟨w.heap.size + 1, 6, none⟩ = some (.int .u32 r.e) := r5.at_ 6
  have xr5_7 : W5.cell? ⟨w.heap.size + 1, 7, none⟩ = some (.int .u16 r.f) := r5.at_ 7
  have xr5_8 : W5.cell? ⟨w.heap.size + 1, 8, none⟩ = some (.int .u16 r.t) := r5.at_ 8
  have xr5_9 : W5.cell? ⟨w.heap.size + 1, 9, none⟩ = some (.int .u32 r.ia) := r5.at_ 9
  have xr5_10 : W5.cell? ⟨w.heap.size + 1, 10, none⟩ = some (.int .u16 r.ip) := r5.at_ 10
  (try simp only [Exit.inBlock, Exit.then]); refine bodyPost_ret (by simp [results, Tryd.results34, go_sem, *]; try rfl) rfl ?_
  exact ⟨rfl, b5⟩

theorem t_whole (w : World) (B : Nat) (o ip b : Int) (v : Value) (r : Rule) (h : Tbl w B o ip b v) :
    Calls Tryd.prog 34 #[.pointer (some ⟨B, 0, none⟩), .agg r.cells] w (Ret (.agg (wholeR o r).cells) w) := by
  unfold wholeR
  by_cases hk : r.k = 2
  · rw [if_pos hk]; exact t_whole_two w B o ip b v r h (by simpa using hk)
  · rw [if_neg hk]; exact t_whole_no w B o ip b v r h (by simpa using hk)

set_option maxRecDepth 100000 in
set_option maxHeartbeats 8000000 in
theorem r_clash_no (w : World) (a b : Rule) (q1 : (a.k == 3) = true) (q2 : (a.k != 3) = false) (q3 : a.k = 3) :
    Calls Tryd.prog 33 #[.agg #[.int .i64 a.k, .int .u8 a.p, .int .u32 a.sa, .int .i64 a.sb, .int .u32 a.da, .int .i64 a.db, .int .u32 a.e, .int .u16 a.f, .int .u16 a.t, .int .u32 a.ia, .int .u16 a.ip], .agg #[.int .i64 b.k, .int .u8 b.p, .int .u32 b.sa, .int .i64 b.sb, .int .u32 b.da, .int .i64 b.db, .int .u32 b.e, .int .u16 b.f, .int .u16 b.t, .int .u32 b.ia, .int .u16 b.ip]] w (Ret (.bool (clash0 a b)) w) := by
  obtain ⟨vv, hvv⟩ : ∃ vv, vv = (clash0 a b) := ⟨_, rfl⟩
  rw [← hvv]
  unfold clash0 at hvv
  have HV := hide hvv
  have Q3 := hide q3
  clear hvv q3
  go_enter Tryd.func33, Tryd.ntmps33
  have d := Cells.new w #[.int .i64 a.k, .int .u8 a.p, .int .u32 a.sa, .int .i64 a.sb, .int .u32 a.da, .int .i64 a.db, .int .u32 a.e, .int .u16 a.f, .int .u16 a.t, .int .u32 a.ia, .int .u16 a.ip] 77
  replace d := Cells.below (fresh_below (w.alloc (.cells #[.int .i64 a.k, .int .u8 a.p, .int .u32 a.sa, .int .i64 a.sb, .int .u32 a.da, .int .i64 a.db, .int .u32 a.e, .int .u16 a.f, .int .u16 a.t, .int .u32 a.ia, .int .u16 a.ip] 77)) (.cells #[.int .i64 b.k, .int .u8 b.p, .int .u32 b.sa, .int .i64 b.sb, .int .u32 b.da, .int .i64 b.db, .int .u32 b.e, .int .u16 b.f, .int .u16 b.t, .int .u32 b.ia, .int .u16 b.ip] 77)) d
  have e := Cells.new (w.alloc (.cells #[.int .i64 a.k, .int .u8 a.p, .int .u32 a.sa, .int .i64 a.sb, .int .u32 a.da, .int .i64 a.db, .int .u32 a.e, .int .u16 a.f, .int .u16 a.t, .int .u32 a.ia, .int .u16 a.ip] 77)) #[.int .i64 b.k, .int .u8 b.p, .int .u32 b.sa, .int .i64 b.sb, .int .u32 b.da, .int .i64 b.db, .int .u32 b.e, .int .u16 b.f, .int .u16 b.t, .int .u32 b.ia, .int .u16 b.ip] 77
  have l0 : Below w.heap.size w ((w.alloc (.cells #[.int .i64 a.k, .int .u8 a.p, .int .u32 a.sa, .int .i64 a.sb, .int .u32 a.da, .int .i64 a.db, .int .u32 a.e, .int .u16 a.f, .int .u16 a.t, .int .u32 a.ia, .int .u16 a.ip] 77)).alloc (.cells #[.int .i64 b.k, .int .u8 b.p, .int .u32 b.sa, .int .i64 b.sb, .int .u32 b.da, .int .i64 b.db, .int .u32 b.e, .int .u16 b.f, .int .u16 b.t, .int .u32 b.ia, .int .u16 b.ip] 77)) := bstep (fresh_below _ _) (fresh_below _ _)
  rw [World.size_alloc] at e
  have L0 := hide l0; have D0 := hide d; have E0 := hide e
  clear l0 d e
  go_upto_region 1 with fail
  have l0 := L0.out; have d := D0.out; have e := E0.out
  clear L0 D0 E0
  generalize ((w.alloc (.cells #[.int .i64 a.k, .int .u8 a.p, .int .u32 a.sa, .int .i64 a.sb, .int .u32 a.da, .int .i64 a.db, .int .u32 a.e, .int .u16 a.f, .int .u16 a.t, .int .u32 a.ia, .int .u16 a.ip] 77)).alloc (.cells #[.int .i64 b.k, .int .u8 b.p, .int .u32 b.sa, .int .i64 b.sb, .int .u32 b.da, .int .i64 b.db, .int .u32 b.e, .int .u16 b.f, .int .u16 b.t, .int .u32 b.ia, .int .u16 b.ip] 77)) = w1 at *
  have xd_0 : w1.cell? ⟨w.heap.size, 0, none⟩ = some (.int .i64 a.k) := d.at_ 0
  have xd_1 : w1.cell? ⟨w.heap.size, 1, none⟩ = some (.int .u8 a.p) := d.at_ 1
  have xd_2 : w1.cell? ⟨w.heap.size, 2, none⟩ = some (.int .u32 a.sa) := d.at_ 2
  have xd_3 : w1.cell? ⟨w.heap.size, 3, none⟩ = some (.int .i64 a.sb) := d.at_ 3
  have xd_4 : w1.cell? ⟨w.heap.size, 4, none⟩ = some (.int .u32 a.da) := d.at_ 4
  have xd_5 : w1.cell? ⟨w.heap.size, 5, none⟩ = some (.int .i64 a.db) := d.at_ 5
  have xd_6 : w1.cell? ⟨w.heap.size, 6, none⟩ = some (.int .u32 a.e) := d.at_ 6
  have xd_7 : w1.cell? ⟨w.heap.size, 7, none⟩ = some (.int .u16 a.f) := d.at_ 7
  have xd_8 : w1.cell? ⟨w.heap.size, 8, none⟩ = some (.int .u16 a.t) := d.at_ 8
  have xd_9 : w1.cell? ⟨w.heap.size, 9, none⟩ = some (.int .u32 a.ia) := d.at_ 9
  have xd_10 : w1.cell? ⟨w.heap.size, 10, none⟩ = some (.int .u16 a.ip) := d.at_ 10
  have xe_0 : w1.cell? ⟨w.heap.size + 1, 0, none⟩ = some (.int .i64 b.k) := e.at_ 0
  have xe_1 : w1.cell? ⟨w.heap.size + 1, 1, none⟩ = some (.int .u8 b.p) := e.at_ 1
  have xe_2 : w1.cell? ⟨w.heap.size + 1, 2, none⟩ = some (.int .u32 b.sa) := e.at_ 2
  have xe_3 : w1.cell? ⟨w.heap.size + 1, 3, none⟩ = some (.int .i64 b.sb) := e.at_ 3
  have xe_4 : w1.cell? ⟨w.heap.size + 1, 4, none⟩ = some (.int .u32 b.da) := e.at_ 4
  have xe_5 : w1.cell? ⟨w.heap.size + 1, 5, none⟩ = some (.int .i64 b.db) := e.at_ 5
  have xe_6 : w1.cell? ⟨w.heap.size + 1, 6, none⟩ = some (.int .u32 b.e) := e.at_ 6
  have xe_7 : w1.cell? ⟨w.heap.size + 1, 7, none⟩ = some (.int .u16 b.f) := e.at_ 7
  have xe_8 : w1.cell? ⟨w.heap.size + 1, 8, none⟩ = some (.int .u16 b.t) := e.at_ 8
  have xe_9 : w1.cell? ⟨w.heap.size + 1, 9, none⟩ = some (.int .u32 b.ia) := e.at_ 9
  have xe_10 : w1.cell? ⟨w.heap.size + 1, 10, none⟩ = some (.int .u16 b.ip) := e.at_ 10
  have L0 := hide l0
  clear d e l0
  go_wp2_with fail
  all_goals
    go_ret
    refine ⟨ret_bool ?_, L0.out⟩
    clear L0 xd_0 xe_0 xd_1 xe_1 xd_2 xe_2 xd_3 xe_3 xd_4 xe_4 xd_5 xe_5 xd_6 xe_6 xd_7 xe_7 xd_8 xe_8 xd_9 xe_9 xd_10 xe_10
    rw [HV.out]
    have q3 := Q3.out
    clear HV Q3
    first | (simp [*]; done) | (simp [*]; omega) | (simp_all; done) | (simp_all; omega) | (trace_state; fail)

set_option maxRecDepth 100000 in
set_option maxHeartbeats 8000000 in
theorem r_clash_swap (w : World) (a b : Rule) (q1 : (a.k == 3) = false) (q2 : (a.k != 3) = true) (q3 : ¬ a.k = 3) :
    Calls Tryd.prog 33 #[.agg #[.int .i64 a.k, .int .u8 a.p, .int .u32 a.sa, .int .i64 a.sb, .int .u32 a.da, .int .i64 a.db, .int .u32 a.e, .int .u16 a.f, .int .u16 a.t, .int .u32 a.ia, .int .u16 a.ip], .agg #[.int .i64 b.k, .int .u8 b.p, .int .u32 b.sa, .int .i64 b.sb, .int .u32 b.da, .int .i64 b.db, .int .u32 b.e, .int .u16 b.f, .int .u16 b.t, .int .u32 b.ia, .int .u16 b.ip]] w (Ret (.bool (clash0 b a)) w) := by
  obtain ⟨vv, hvv⟩ : ∃ vv, vv = (clash0 b a) := ⟨_, rfl⟩
  rw [← hvv]
  unfold clash0 at hvv
  have HV := hide hvv
  have Q3 := hide q3
  clear hvv q3
  go_enter Tryd.func33, Tryd.ntmps33
  have d := Cells.new w #[.int .i64 a.k, .int .u8 a.p, .int .u32 a.sa, .int .i64 a.sb, .int .u32 a.da, .int .i64 a.db, .int .u32 a.e, .int .u16 a.f, .int .u16 a.t, .int .u32 a.ia, .int .u16 a.ip] 77
  replace d := Cells.below (fresh_below (w.alloc (.cells #[.int .i64 a.k, .int .u8 a.p, .int .u32 a.sa, .int .i64 a.sb, .int .u32 a.da, .int .i64 a.db, .int .u32 a.e, .int .u16 a.f, .int .u16 a.t, .int .u32 a.ia, .int .u16 a.ip] 77)) (.cells #[.int .i64 b.k, .int .u8 b.p, .int .u32 b.sa, .int .i64 b.sb, .int .u32 b.da, .int .i64 b.db, .int .u32 b.e, .int .u16 b.f, .int .u16 b.t, .int .u32 b.ia, .int .u16 b.ip] 77)) d
  have e := Cells.new (w.alloc (.cells #[.int .i64 a.k, .int .u8 a.p, .int .u32 a.sa, .int .i64 a.sb, .int .u32 a.da, .int .i64 a.db, .int .u32 a.e, .int .u16 a.f, .int .u16 a.t, .int .u32 a.ia, .int .u16 a.ip] 77)) #[.int .i64 b.k, .int .u8 b.p, .int .u32 b.sa, .int .i64 b.sb, .int .u32 b.da, .int .i64 b.db, .int .u32 b.e, .int .u16 b.f, .int .u16 b.t, .int .u32 b.ia, .int .u16 b.ip] 77
  have l0 : Below w.heap.size w ((w.alloc (.cells #[.int .i64 a.k, .int .u8 a.p, .int .u32 a.sa, .int .i64 a.sb, .int .u32 a.da, .int .i64 a.db, .int .u32 a.e, .int .u16 a.f, .int .u16 a.t, .int .u32 a.ia, .int .u16 a.ip] 77)).alloc (.cells #[.int .i64 b.k, .int .u8 b.p, .int .u32 b.sa, .int .i64 b.sb, .int .u32 b.da, .int .i64 b.db, .int .u32 b.e, .int .u16 b.f, .int .u16 b.t, .int .u32 b.ia, .int .u16 b.ip] 77)) := bstep (fresh_below _ _) (fresh_below _ _)
  rw [World.size_alloc] at e
  have L0 := hide l0; have D0 := hide d; have E0 := hide e
  clear l0 d e
  go_upto_region 1 with fail
  have l0 := L0.out; have d := D0.out; have e := E0.out
  clear L0 D0 E0
  generalize ((w.alloc (.cells #[.int .i64 a.k, .int .u8 a.p, .int .u32 a.sa, .int .i64 a.sb, .int .u32 a.da, .int .i64 a.db, .int .u32 a.e, .int .u16 a.f, .int .u16 a.t, .int .u32 a.ia, .int .u16 a.ip] 77)).alloc (.cells #[.int .i64 b.k, .int .u8 b.p, .int .u32 b.sa, .int .i64 b.sb, .int .u32 b.da, .int .i64 b.db, .int .u32 b.e, .int .u16 b.f, .int .u16 b.t, .int .u32 b.ia, .int .u16 b.ip] 77)) = w1 at *
  have xd_0 : w1.cell? ⟨w.heap.size, 0, none⟩ = some (.int .i64 a.k) := d.at_ 0
  have xd_1 : w1.cell? ⟨w.heap.size, 1, none⟩ = some (.int .u8 a.p) := d.at_ 1
  have xd_2 : w1.cell? ⟨w.heap.size, 2, none⟩ = some (.int .u32 a.sa) := d.at_ 2
  have xd_3 : w1.cell? ⟨w.heap.size, 3, none⟩ = some (.int .i64 a.sb) := d.at_ 3
  have xd_4 : w1.cell? ⟨w.heap.size, 4, none⟩ = some (.int .u32 a.da) := d.at_ 4
  have xd_5 : w1.cell? ⟨w.heap.size, 5, none⟩ = some (.int .i64 a.db) := d.at_ 5
  have xd_6 : w1.cell? ⟨w.heap.size, 6, none⟩ = some (.int .u32 a.e) := d.at_ 6
  have xd_7 : w1.cell? ⟨w.heap.size, 7, none⟩ = some (.int .u16 a.f) := d.at_ 7
  have xd_8 : w1.cell? ⟨w.heap.size, 8, none⟩ = some (.int .u16 a.t) := d.at_ 8
  have xd_9 : w1.cell? ⟨w.heap.size, 9, none⟩ = some (.int .u32 a.ia) := d.at_ 9
  have xd_10 : w1.cell? ⟨w.heap.size, 10, none⟩ = some (.int .u16 a.ip) := d.at_ 10
  have yd_0 : w1.frozen? ⟨w.heap.size, 0, none⟩ = false := d.free 0
  have yd_1 : w1.frozen? ⟨w.heap.size, 1, none⟩ = false := d.free 1
  have yd_2 : w1.frozen? ⟨w.heap.size, 2, none⟩ = false := d.free 2
  have yd_3 : w1.frozen? ⟨w.heap.size, 3, none⟩ = false := d.free 3
  have yd_4 : w1.frozen? ⟨w.heap.size, 4, none⟩ = false := d.free 4
  have yd_5 : w1.frozen? ⟨w.heap.size, 5, none⟩ = false := d.free 5
  have yd_6 : w1.frozen? ⟨w.heap.size, 6, none⟩ = false := d.free 6
  have yd_7 : w1.frozen? ⟨w.heap.size, 7, none⟩ = false := d.free 7
  have yd_8 : w1.frozen? ⟨w.heap.size, 8, none⟩ = false := d.free 8
  have yd_9 : w1.frozen? ⟨w.heap.size, 9, none⟩ = false := d.free 9
  have yd_10 : w1.frozen? ⟨w.heap.size, 10, none⟩ = false := d.free 10
  have xe_0 : w1.cell? ⟨w.heap.size + 1, 0, none⟩ = some (.int .i64 b.k) := e.at_ 0
  have xe_1 : w1.cell? ⟨w.heap.size + 1, 1, none⟩ = some (.int .u8 b.p) := e.at_ 1
  have xe_2 : w1.cell? ⟨w.heap.size + 1, 2, none⟩ = some (.int .u32 b.sa) := e.at_ 2
  have xe_3 : w1.cell? ⟨w.heap.size + 1, 3, none⟩ = some (.int .i64 b.sb) := e.at_ 3
  have xe_4 : w1.cell? ⟨w.heap.size + 1, 4, none⟩ = some (.int .u32 b.da) := e.at_ 4
  have xe_5 : w1.cell? ⟨w.heap.size + 1, 5, none⟩ = some (.int .i64 b.db) := e.at_ 5
  have xe_6 : w1.cell? ⟨w.heap.size + 1, 6, none⟩ = some (.int .u32 b.e) := e.at_ 6
  have xe_7 : w1.cell? ⟨w.heap.size + 1, 7, none⟩ = some (.int .u16 b.f) := e.at_ 7
  have xe_8 : w1.cell? ⟨w.heap.size + 1, 8, none⟩ = some (.int .u16 b.t) := e.at_ 8
  have xe_9 : w1.cell? ⟨w.heap.size + 1, 9, none⟩ = some (.int .u32 b.ia) := e.at_ 9
  have xe_10 : w1.cell? ⟨w.heap.size + 1, 10, none⟩ = some (.int .u16 b.ip) := e.at_ 10
  have ye_0 : w1.frozen? ⟨w.heap.size + 1, 0, none⟩ = false := e.free 0
  have ye_1 : w1.frozen? ⟨w.heap.size + 1, 1, none⟩ = false := e.free 1
  have ye_2 : w1.frozen? ⟨w.heap.size + 1, 2, none⟩ = false := e.free 2
  have ye_3 : w1.frozen? ⟨w.heap.size + 1, 3, none⟩ = false := e.free 3
  have ye_4 : w1.frozen? ⟨w.heap.size + 1, 4, none⟩ = false := e.free 4
  have ye_5 : w1.frozen? ⟨w.heap.size + 1, 5, none⟩ = false := e.free 5
  have ye_6 : w1.frozen? ⟨w.heap.size + 1, 6, none⟩ = false := e.free 6
  have ye_7 : w1.frozen? ⟨w.heap.size + 1, 7, none⟩ = false := e.free 7
  have ye_8 : w1.frozen? ⟨w.heap.size + 1, 8, none⟩ = false := e.free 8
  have ye_9 : w1.frozen? ⟨w.heap.size + 1, 9, none⟩ = false := e.free 9
  have ye_10 : w1.frozen? ⟨w.heap.size + 1, 10, none⟩ = false := e.free 10
  have d2 := Cells.far11 (Cells.put11 d (.int .i64 b.k) (.int .u8 b.p) (.int .u32 b.sa) (.int .i64 b.sb) (.int .u32 b.da) (.int .i64 b.db) (.int .u32 b.e) (.int .u16 b.f) (.int .u16 b.t) (.int .u32 b.ia) (.int .u16 b.ip)) (show w.heap.size ≠ w.heap.size + 1 by omega) (.int .i64 a.k) (.int .u8 a.p) (.int .u32 a.sa) (.int .i64 a.sb) (.int .u32 a.da) (.int .i64 a.db) (.int .u32 a.e) (.int .u16 a.f) (.int .u16 a.t) (.int .u32 a.ia) (.int .u16 a.ip)
  have e2 := Cells.put11 (Cells.far11 e (show w.heap.size + 1 ≠ w.heap.size by omega) (.int .i64 b.k) (.int .u8 b.p) (.int .u32 b.sa) (.int .i64 b.sb) (.int .u32 b.da) (.int .i64 b.db) (.int .u32 b.e) (.int .u16 b.f) (.int .u16 b.t) (.int .u32 b.ia) (.int .u16 b.ip)) (.int .i64 a.k) (.int .u8 a.p) (.int .u32 a.sa) (.int .i64 a.sb) (.int .u32 a.da) (.int .i64 a.db) (.int .u32 a.e) (.int .u16 a.f) (.int .u16 a.t) (.int .u32 a.ia) (.int .u16 a.ip)
  have l2 := Below.put11 (Below.put11 l0 (Nat.le_refl w.heap.size) (.int .i64 b.k) (.int .u8 b.p) (.int .u32 b.sa) (.int .i64 b.sb) (.int .u32 b.da) (.int .i64 b.db) (.int .u32 b.e) (.int .u16 b.f) (.int .u16 b.t) (.int .u32 b.ia) (.int .u16 b.ip)) (Nat.le_succ w.heap.size) (.int .i64 a.k) (.int .u8 a.p) (.int .u32 a.sa) (.int .i64 a.sb) (.int .u32 a.da) (.int .i64 a.db) (.int .u32 a.e) (.int .u16 a.f) (.int .u16 a.t) (.int .u32 a.ia) (.int .u16 a.ip)
  have D0 := hide d2; have E0 := hide e2; have L0 := hide l2
  clear d e l0 d2 e2 l2
  go_upto_region 3 with fail
  have d := D0.out; have e := E0.out; have l0 := L0.out
  clear D0 E0 L0 xd_0 yd_0 xe_0 ye_0 xd_1 yd_1 xe_1 ye_1 xd_2 yd_2 xe_2 ye_2 xd_3 yd_3 xe_3 ye_3 xd_4 yd_4 xe_4 ye_4 xd_5 yd_5 xe_5 ye_5 xd_6 yd_6 xe_6 ye_6 xd_7 yd_7 xe_7 ye_7 xd_8 yd_8 xe_8 ye_8 xd_9 yd_9 xe_9 ye_9 xd_10 yd_10 xe_10 ye_10
  generalize hW : World.setCell _ _ _ = w2 at *
  clear hW
  have xd_0 : w2.cell? ⟨w.heap.size, 0, none⟩ = some (.int .i64 b.k) := d.at_ 0
  have xd_1 : w2.cell? ⟨w.heap.size, 1, none⟩ = some (.int .u8 b.p) := d.at_ 1
  have xd_2 : w2.cell? ⟨w.heap.size, 2, none⟩ = some (.int .u32 b.sa) := d.at_ 2
  have xd_3 : w2.cell? ⟨w.heap.size, 3, none⟩ = some (.int .i64 b.sb) := d.at_ 3
  have xd_4 : w2.cell? ⟨w.heap.size, 4, none⟩ = some (.int .u32 b.da) := d.at_ 4
  have xd_5 : w2.cell? ⟨w.heap.size, 5, none⟩ = some (.int .i64 b.db) := d.at_ 5
  have xd_6 : w2.cell? ⟨w.heap.size, 6, none⟩ = some (.int .u32 b.e) := d.at_ 6
  have xd_7 : w2.cell? ⟨w.heap.size, 7, none⟩ = some (.int .u16 b.f) := d.at_ 7
  have xd_8 : w2.cell? ⟨w.heap.size, 8, none⟩ = some (.int .u16 b.t) := d.at_ 8
  have xd_9 : w2.cell? ⟨w.heap.size, 9, none⟩ = some (.int .u32 b.ia) := d.at_ 9
  have xd_10 : w2.cell? ⟨w.heap.size, 10, none⟩ = some (.int .u16 b.ip) := d.at_ 10
  have xe_0 : w2.cell? ⟨w.heap.size + 1, 0, none⟩ = some (.int .i64 a.k) := e.at_ 0
  have xe_1 : w2.cell? ⟨w.heap.size + 1, 1, none⟩ = some (.int .u8 a.p) := e.at_ 1
  have xe_2 : w2.cell? ⟨w.heap.size + 1, 2, none⟩ = some (.int .u32 a.sa) := e.at_ 2
  have xe_3 : w2.cell? ⟨w.heap.size + 1, 3, none⟩ = some (.int .i64 a.sb) := e.at_ 3
  have xe_4 : w2.cell? ⟨w.heap.size + 1, 4, none⟩ = some (.int .u32 a.da) := e.at_ 4
  have xe_5 : w2.cell? ⟨w.heap.size + 1, 5, none⟩ = some (.int .i64 a.db) := e.at_ 5
  have xe_6 : w2.cell? ⟨w.heap.size + 1, 6, none⟩ = some (.int .u32 a.e) := e.at_ 6
  have xe_7 : w2.cell? ⟨w.heap.size + 1, 7, none⟩ = some (.int .u16 a.f) := e.at_ 7
  have xe_8 : w2.cell? ⟨w.heap.size + 1, 8, none⟩ = some (.int .u16 a.t) := e.at_ 8
  have xe_9 : w2.cell? ⟨w.heap.size + 1, 9, none⟩ = some (.int .u32 a.ia) := e.at_ 9
  have xe_10 : w2.cell? ⟨w.heap.size + 1, 10, none⟩ = some (.int .u16 a.ip) := e.at_ 10
  have L0 := hide l0
  clear d e l0
  go_wp2_with fail
  all_goals
    go_ret
    refine ⟨ret_bool ?_, L0.out⟩
    clear L0 xd_0 xe_0 xd_1 xe_1 xd_2 xe_2 xd_3 xe_3 xd_4 xe_4 xd_5 xe_5 xd_6 xe_6 xd_7 xe_7 xd_8 xe_8 xd_9 xe_9 xd_10 xe_10
    rw [HV.out]
    have q3 := Q3.out
    clear HV Q3
    first | (simp [*]; done) | (simp [*]; omega) | (simp_all; done) | (simp_all; omega) | (trace_state; fail)

theorem r_clash (w : World) (a b : Rule) :
    Calls Tryd.prog 33 #[.agg a.cells, .agg b.cells] w (Ret (.bool (clashR a b)) w) := by
  unfold clashR
  by_cases hk : a.k = 3
  · rw [if_pos hk]; exact r_clash_no w a b (by simpa using hk) (by simpa using hk) hk
  · rw [if_neg hk]; exact r_clash_swap w a b (by simpa using hk) (by simpa using hk) hk
end Go.Proofs.YtilfcikhipadpaaDoor
end

section
/- Runs of copy and clear at elements of several cells, of whatever program. -/
set_option linter.unusedVariables false
set_option linter.unusedSimpArgs false
namespace Go.Proofs.YtilfcikhipadpaaDoor
open Go.RowKit Go.Lib
variable {P : Program}

theorem run_copy_k (w : World) (dT sT ty elem : TypeId) (k b o dLen dCap : Nat) (a : Addr) (sLen sCap : Nat) (cs : List Value)
    (hu : P.underlying dT = some (.slice elem)) (hs : (P.info? elem).map (·.size) = some k) (hn : cs.length = Nat.min sLen dLen * k)
    (hsrc : ∀ j v, cs[j]? = some v → w.cell? (a.add j) = some v) (hc : ∀ j, j < cs.length → (w.cell? ⟨b, o + j, none⟩).isSome = true) (hf : ∀ j, j < cs.length → w.frozen? ⟨b, o + j, none⟩ = false) (h1 : ∀ v ∈ cs, v.oneCell' = true) :
    (Builtin.copy_ #[dT, sT] ty #[.slice (some ⟨b, o, none⟩) dLen dCap, .slice (some a) sLen sCap]).run P w = .ok (goInt (Nat.min sLen dLen)) (w.setCells b o cs) := by
  have hl := run_loadCells_list (P := P) w a cs hsrc
  have hst := run_storeCells_cells (P := P) b o cs 0 w (by simpa using hc) (by simpa using hf) h1
  cases hq : P.info? elem with
  | none => simp [hq] at hs
  | some i =>
    have hi : i.size = k := by simpa [hq] using hs
    rw [hn] at hl
    simp [Builtin.copy_, run_underlying hu, Builtin.lenOf, Builtin.firstCells, sizeOf, typeInfo, hq, hi, hl, hst]

theorem run_clear_k (w : World) (t e ty : TypeId) (z : Value) (ht : P.underlying t = some (.slice e)) (hv : ∀ w, (zeroValue e).run P w = .ok z w) (b o n c : Nat) (zs : List Value) (hz : (Builtin.zeroCells z.cells n).toList = zs) (h1 : ∀ v ∈ zs, v.oneCell' = true) (hn : 0 < n)
    (hc : ∀ j, j < zs.length → (w.cell? ⟨b, o + j, none⟩).isSome = true) (hf : ∀ j, j < zs.length → w.frozen? ⟨b, o + j, none⟩ = false) :
    (Builtin.clear_ #[t] ty #[.slice (some ⟨b, o, none⟩) n c]).run P w = .ok (.tuple #[]) (w.setCells b o zs) := by
  have hst := run_storeCells_cells (P := P) b o zs 0 w (by simpa using hc) (by simpa using hf) h1
  simp only [Nat.add_zero] at hst
  obtain ⟨m, rfl⟩ : ∃ m, n = m + 1 := ⟨n - 1, by omega⟩
  simp [Builtin.clear_, run_underlying ht, hv, hz, hst]
end Go.Proofs.YtilfcikhipadpaaDoor
end
