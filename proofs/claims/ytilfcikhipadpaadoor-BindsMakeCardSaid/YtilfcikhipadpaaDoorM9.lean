/- Several texts of this claim, one behind the other. -/
import Derived.Test.YtilfcikhipadpaaDoorM8
import Derived.Deep.DeepCutAuto
import Derived.Deep.CutBlock

section
/- rules: the closure of Add. -/
set_option linter.unusedVariables false
set_option linter.unusedSimpArgs false
namespace Go.Proofs.YtilfcikhipadpaaDoor
open Go.RowKit Go.Lib
attribute [local go_sem] Oper.semAt_some

set_option maxHeartbeats 4000000 in
set_option maxRecDepth 100000 in
theorem t_Add1 (w : World) (B : Nat) (o ip b : Int) (v : Value) (x r : Rule) (tb rb : Nat) (T : TypeId) (h : Tbl w B o ip b v) (ht : Cells w tb #[.pointer (some ⟨B, 0, none⟩)] T) (hr : Cells w rb r.cells 77) :
    Calls Tryd.prog 32 #[.agg x.cells, .pointer (some ⟨tb, 0, none⟩), .pointer (some ⟨rb, 0, none⟩)] w (Ret (.bool (clashR (wholeR o x) (wholeR o r))) w) := by
  have c1 := fun W (h : Below w.heap.size w W) (hw : Tbl w B o ip b v) => t_whole W B o ip b v x (Tbl.below hw h)
  have c2 := fun W (h : Below w.heap.size w W) (hw : Tbl w B o ip b v) => t_whole W B o ip b v r (Tbl.below hw h)
  have c3 := fun W => r_clash W (wholeR o x) (wholeR o r)
  generalize wholeR o x = x1 at *
  generalize wholeR o r = r1 at *
  generalize clashR x1 r1 = q at *
  unfold Rule.cells at *
  have C1 := hide c1; have C2 := hide c2; have C3 := hide c3; have H := hide h; have HT := hide ht; have HR := hide hr
  clear c1 c2 c3 h ht hr
  go_enter Tryd.func32, Tryd.ntmps32
  have d := Cells.new w #[.int .i64 x.k, .int .u8 x.p, .int .u32 x.sa, .int .i64 x.sb, .int .u32 x.da, .int .i64 x.db, .int .u32 x.e, .int .u16 x.f, .int .u16 x.t, .int .u32 x.ia, .int .u16 x.ip] 77
  have l0 := fresh_below w (.cells #[.int .i64 x.k, .int .u8 x.p, .int .u32 x.sa, .int .i64 x.sb, .int .u32 x.da, .int .i64 x.db, .int .u32 x.e, .int .u16 x.f, .int .u16 x.t, .int .u32 x.ia, .int .u16 x.ip] 77)
  have L0 := hide l0; have D0 := hide d
  clear l0 d
  go_upto_region 1 with fail
  have l0 := L0.out; have d := D0.out
  clear L0 D0
  generalize (w.alloc (.cells #[.int .i64 x.k, .int .u8 x.p, .int .u32 x.sa, .int .i64 x.sb, .int .u32 x.da, .int .i64 x.db, .int .u32 x.e, .int .u16 x.f, .int .u16 x.t, .int .u32 x.ia, .int .u16 x.ip] 77)) = w1 at *
  have hT := Cells.below l0 HT.out
  have hR := Cells.below l0 HR.out
  have b1 : Below w.heap.size w w1 := l0
  have SK := hide (fun (zX zY : World) (zh : (Below w.heap.size w zX ∧ zX.cell? ⟨tb, 0, none⟩ = some (.pointer (some ⟨B, 0, none⟩)) ∧ zX.cell? ⟨rb, 0, none⟩ = some (.int .i64 r.k) ∧ zX.cell? ⟨rb, 1, none⟩ = some (.int .u8 r.p) ∧ zX.cell? ⟨rb, 2, none⟩ = some (.int .u32 r.sa) ∧ zX.cell? ⟨rb, 3, none⟩ = some (.int .i64 r.sb) ∧ zX.cell? ⟨rb, 4, none⟩ = some (.int .u32 r.da) ∧ zX.cell? ⟨rb, 5, none⟩ = some (.int .i64 r.db) ∧ zX.cell? ⟨rb, 6, none⟩ = some (.int .u32 r.e) ∧ zX.cell? ⟨rb, 7, none⟩ = some (.int .u16 r.f) ∧ zX.cell? ⟨rb, 8, none⟩ = some (.int .u16 r.t) ∧ zX.cell? ⟨rb, 9, none⟩ = some (.int .u32 r.ia) ∧ zX.cell? ⟨rb, 10, none⟩ = some (.int .u16 r.ip) ∧ zX.cell? ⟨w.heap.size, 0, none⟩ = some (.int .i64 x.k) ∧ zX.cell? ⟨w.heap.size, 1, none⟩ = some (.int .u8 x.p) ∧ zX.cell? ⟨w.heap.size, 2, none⟩ = some (.int .u32 x.sa) ∧ zX.cell? ⟨w.heap.size, 3, none⟩ = some (.int .i64 x.sb) ∧ zX.cell? ⟨w.heap.size, 4, none⟩ = some (.int .u32 x.da) ∧ zX.cell? ⟨w.heap.size, 5, none⟩ = some (.int .i64 x.db) ∧ zX.cell? ⟨w.heap.size, 6, none⟩ = some (.int .u32 x.e) ∧ zX.cell? ⟨w.heap.size, 7, none⟩ = some (.int .u16 x.f) ∧ zX.cell? ⟨w.heap.size, 8, none⟩ = some (.int .u16 x.t) ∧ zX.cell? ⟨w.heap.size, 9, none⟩ = some (.int .u32 x.ia) ∧ zX.cell? ⟨w.heap.size, 10, none⟩ = some (.int .u16 x.ip) ∧ True)) (zb : Below zX.heap.size zX zY) => (show (Below w.heap.size w zY ∧ zY.cell? ⟨tb, 0, none⟩ = some (.pointer (some ⟨B, 0, none⟩)) ∧ zY.cell? ⟨rb, 0, none⟩ = some (.int .i64 r.k) ∧ zY.cell? ⟨rb, 1, none⟩ = some (.int .u8 r.p) ∧ zY.cell? ⟨rb, 2, none⟩ = some (.int .u32 r.sa) ∧ zY.cell? ⟨rb, 3, none⟩ = some (.int .i64 r.sb) ∧ zY.cell? ⟨rb, 4, none⟩ = some (.int .u32 r.da) ∧ zY.cell? ⟨rb, 5, none⟩ = some (.int .i64 r.db) ∧ zY.cell? ⟨rb, 6, none⟩ = some (.int .u32 r.e) ∧ zY.cell? ⟨rb, 7, none⟩ = some (.int .u16 r.f) ∧ zY.cell? ⟨rb, 8, none⟩ = some (.int .u16 r.t) ∧ zY.cell? ⟨rb, 9, none⟩ = some (.int .u32 r.ia) ∧ zY.cell? ⟨rb, 10, none⟩ = some (.int .u16 r.ip) ∧ zY.cell? ⟨w.heap.size, 0, none⟩ = some (.int .i64 x.k) ∧ zY.cell? ⟨w.heap.size, 1, none⟩ = some (.int .u8 x.p) ∧ zY.cell? ⟨w.heap.size, 2, none⟩ = some (.int .u32 x.sa) ∧ zY.cell? ⟨w.heap.size, 3, none⟩ = some (.int .i64 x.sb) ∧ zY.cell? ⟨w.heap.size, 4, none⟩ = some (.int .u32 x.da) ∧ zY.cell? ⟨w.heap.size, 5, none⟩ = some (.int .i64 x.db) ∧ zY.cell? ⟨w.heap.size, 6, none⟩ = some (.int .u32 x.e) ∧ zY.cell? ⟨w.heap.size, 7, none⟩ = some (.int .u16 x.f) ∧ zY.cell? ⟨w.heap.size, 8, none⟩ = some (.int .u16 x.t) ∧ zY.cell? ⟨w.heap.size, 9, none⟩ = some (.int .u32 x.ia) ∧ zY.cell? ⟨w.heap.size, 10, none⟩ = some (.int .u16 x.ip) ∧ True) from ⟨bstep zh.1 zb, cellAt zb zh.2.1, cellAt zb zh.2.2.1, cellAt zb zh.2.2.2.1, cellAt zb zh.2.2.2.2.1, cellAt zb zh.2.2.2.2.2.1, cellAt zb zh.2.2.2.2.2.2.1, cellAt zb zh.2.2.2.2.2.2.2.1, cellAt zb zh.2.2.2.2.2.2.2.2.1, cellAt zb zh.2.2.2.2.2.2.2.2.2.1, cellAt zb zh.2.2.2.2.2.2.2.2.2.2.1, cellAt zb zh.2.2.2.2.2.2.2.2.2.2.2.1, cellAt zb zh.2.2.2.2.2.2.2.2.2.2.2.2.1, cellAt zb zh.2.2.2.2.2.2.2.2.2.2.2.2.2.1, cellAt zb zh.2.2.2.2.2.2.2.2.2.2.2.2.2.2.1, cellAt zb zh.2.2.2.2.2.2.2.2.2.2.2.2.2.2.2.1, cellAt zb zh.2.2.2.2.2.2.2.2.2.2.2.2.2.2.2.2.1, cellAt zb zh.2.2.2.2.2.2.2.2.2.2.2.2.2.2.2.2.2.1, cellAt zb zh.2.2.2.2.2.2.2.2.2.2.2.2.2.2.2.2.2.2.1, cellAt zb zh.2.2.2.2.2.2.2.2.2.2.2.2.2.2.2.2.2.2.2.1, cellAt zb zh.2.2.2.2.2.2.2.2.2.2.2.2.2.2.2.2.2.2.2.2.1, cellAt zb zh.2.2.2.2.2.2.2.2.2.2.2.2.2.2.2.2.2.2.2.2.2.1, cellAt zb zh.2.2.2.2.2.2.2.2.2.2.2.2.2.2.2.2.2.2.2.2.2.2.1, cellAt zb zh.2.2.2.2.2.2.2.2.2.2.2.2.2.2.2.2.2.2.2.2.2.2.2.1, trivial⟩))
  have FS := hide (fun (zX : World) (zh : (Below w.heap.size w zX ∧ zX.cell? ⟨tb, 0, none⟩ = some (.pointer (some ⟨B, 0, none⟩)) ∧ zX.cell? ⟨rb, 0, none⟩ = some (.int .i64 r.k) ∧ zX.cell? ⟨rb, 1, none⟩ = some (.int .u8 r.p) ∧ zX.cell? ⟨rb, 2, none⟩ = some (.int .u32 r.sa) ∧ zX.cell? ⟨rb, 3, none⟩ = some (.int .i64 r.sb) ∧ zX.cell? ⟨rb, 4, none⟩ = some (.int .u32 r.da) ∧ zX.cell? ⟨rb, 5, none⟩ = some (.int .i64 r.db) ∧ zX.cell? ⟨rb, 6, none⟩ = some (.int .u32 r.e) ∧ zX.cell? ⟨rb, 7, none⟩ = some (.int .u16 r.f) ∧ zX.cell? ⟨rb, 8, none⟩ = some (.int .u16 r.t) ∧ zX.cell? ⟨rb, 9, none⟩ = some (.int .u32 r.ia) ∧ zX.cell? ⟨rb, 10, none⟩ = some (.int .u16 r.ip) ∧ zX.cell? ⟨w.heap.size, 0, none⟩ = some (.int .i64 x.k) ∧ zX.cell? ⟨w.heap.size, 1, none⟩ = some (.int .u8 x.p) ∧ zX.cell? ⟨w.heap.size, 2, none⟩ = some (.int .u32 x.sa) ∧ zX.cell? ⟨w.heap.size, 3, none⟩ = some (.int .i64 x.sb) ∧ zX.cell? ⟨w.heap.size, 4, none⟩ = some (.int .u32 x.da) ∧ zX.cell? ⟨w.heap.size, 5, none⟩ = some (.int .i64 x.db) ∧ zX.cell? ⟨w.heap.size, 6, none⟩ = some (.int .u32 x.e) ∧ zX.cell? ⟨w.heap.size, 7, none⟩ = some (.int .u16 x.f) ∧ zX.cell? ⟨w.heap.size, 8, none⟩ = some (.int .u16 x.t) ∧ zX.cell? ⟨w.heap.size, 9, none⟩ = some (.int .u32 x.ia) ∧ zX.cell? ⟨w.heap.size, 10, none⟩ = some (.int .u16 x.ip) ∧ True)) => zh.1)
  have GS := hide (fun (zX : World) (zh : (Below w.heap.size w zX ∧ zX.cell? ⟨tb, 0, none⟩ = some (.pointer (some ⟨B, 0, none⟩)) ∧ zX.cell? ⟨rb, 0, none⟩ = some (.int .i64 r.k) ∧ zX.cell? ⟨rb, 1, none⟩ = some (.int .u8 r.p) ∧ zX.cell? ⟨rb, 2, none⟩ = some (.int .u32 r.sa) ∧ zX.cell? ⟨rb, 3, none⟩ = some (.int .i64 r.sb) ∧ zX.cell? ⟨rb, 4, none⟩ = some (.int .u32 r.da) ∧ zX.cell? ⟨rb, 5, none⟩ = some (.int .i64 r.db) ∧ zX.cell? ⟨rb, 6, none⟩ = some (.int .u32 r.e) ∧ zX.cell? ⟨rb, 7, none⟩ = some (.int .u16 r.f) ∧ zX.cell? ⟨rb, 8, none⟩ = some (.int .u16 r.t) ∧ zX.cell? ⟨rb, 9, none⟩ = some (.int .u32 r.ia) ∧ zX.cell? ⟨rb, 10, none⟩ = some (.int .u16 r.ip) ∧ zX.cell? ⟨w.heap.size, 0, none⟩ = some (.int .i64 x.k) ∧ zX.cell? ⟨w.heap.size, 1, none⟩ = some (.int .u8 x.p) ∧ zX.cell? ⟨w.heap.size, 2, none⟩ = some (.int .u32 x.sa) ∧ zX.cell? ⟨w.heap.size, 3, none⟩ = some (.int .i64 x.sb) ∧ zX.cell? ⟨w.heap.size, 4, none⟩ = some (.int .u32 x.da) ∧ zX.cell? ⟨w.heap.size, 5, none⟩ = some (.int .i64 x.db) ∧ zX.cell? ⟨w.heap.size, 6, none⟩ = some (.int .u32 x.e) ∧ zX.cell? ⟨w.heap.size, 7, none⟩ = some (.int .u16 x.f) ∧ zX.cell? ⟨w.heap.size, 8, none⟩ = some (.int .u16 x.t) ∧ zX.cell? ⟨w.heap.size, 9, none⟩ = some (.int .u32 x.ia) ∧ zX.cell? ⟨w.heap.size, 10, none⟩ = some (.int .u16 x.ip) ∧ True)) => zh)
  have hS0 : (Below w.heap.size w w1 ∧ w1.cell? ⟨tb, 0, none⟩ = some (.pointer (some ⟨B, 0, none⟩)) ∧ w1.cell? ⟨rb, 0, none⟩ = some (.int .i64 r.k) ∧ w1.cell? ⟨rb, 1, none⟩ = some (.int .u8 r.p) ∧ w1.cell? ⟨rb, 2, none⟩ = some (.int .u32 r.sa) ∧ w1.cell? ⟨rb, 3, none⟩ = some (.int .i64 r.sb) ∧ w1.cell? ⟨rb, 4, none⟩ = some (.int .u32 r.da) ∧ w1.cell? ⟨rb, 5, none⟩ = some (.int .i64 r.db) ∧ w1.cell? ⟨rb, 6, none⟩ = some (.int .u32 r.e) ∧ w1.cell? ⟨rb, 7, none⟩ = some (.int .u16 r.f) ∧ w1.cell? ⟨rb, 8, none⟩ = some (.int .u16 r.t) ∧ w1.cell? ⟨rb, 9, none⟩ = some (.int .u32 r.ia) ∧ w1.cell? ⟨rb, 10, none⟩ = some (.int .u16 r.ip) ∧ w1.cell? ⟨w.heap.size, 0, none⟩ = some (.int .i64 x.k) ∧ w1.cell? ⟨w.heap.size, 1, none⟩ = some (.int .u8 x.p) ∧ w1.cell? ⟨w.heap.size, 2, none⟩ = some (.int .u32 x.sa) ∧ w1.cell? ⟨w.heap.size, 3, none⟩ = some (.int .i64 x.sb) ∧ w1.cell? ⟨w.heap.size, 4, none⟩ = some (.int .u32 x.da) ∧ w1.cell? ⟨w.heap.size, 5, none⟩ = some (.int .i64 x.db) ∧ w1.cell? ⟨w.heap.size, 6, none⟩ = some (.int .u32 x.e) ∧ w1.cell? ⟨w.heap.size, 7, none⟩ = some (.int .u16 x.f) ∧ w1.cell? ⟨w.heap.size, 8, none⟩ = some (.int .u16 x.t) ∧ w1.cell? ⟨w.heap.size, 9, none⟩ = some (.int .u32 x.ia) ∧ w1.cell? ⟨w.heap.size, 10, none⟩ = some (.int .u16 x.ip) ∧ True) := ⟨(by (repeat' (first | with_reducible exact b1 | with_reducible exact Below.refl _ _ | with_reducible refine Below.setCell ?_ (by first | exact Nat.le_refl _ | (dsimp only; omega)) _ | with_reducible refine bstep ?_ (fresh_below _ _) | with_reducible refine Below.drew ?_))), hT.at_ 0, hR.at_ 0, hR.at_ 1, hR.at_ 2, hR.at_ 3, hR.at_ 4, hR.at_ 5, hR.at_ 6, hR.at_ 7, hR.at_ 8, hR.at_ 9, hR.at_ 10, d.at_ 0, d.at_ 1, d.at_ 2, d.at_ 3, d.at_ 4, d.at_ 5, d.at_ 6, d.at_ 7, d.at_ 8, d.at_ 9, d.at_ 10, trivial⟩
  go_region_held3 (fun w' => (Below w.heap.size w w' ∧ w'.cell? ⟨tb, 0, none⟩ = some (.pointer (some ⟨B, 0, none⟩)) ∧ w'.cell? ⟨rb, 0, none⟩ = some (.int .i64 r.k) ∧ w'.cell? ⟨rb, 1, none⟩ = some (.int .u8 r.p) ∧ w'.cell? ⟨rb, 2, none⟩ = some (.int .u32 r.sa) ∧ w'.cell? ⟨rb, 3, none⟩ = some (.int .i64 r.sb) ∧ w'.cell? ⟨rb, 4, none⟩ = some (.int .u32 r.da) ∧ w'.cell? ⟨rb, 5, none⟩ = some (.int .i64 r.db) ∧ w'.cell? ⟨rb, 6, none⟩ = some (.int .u32 r.e) ∧ w'.cell? ⟨rb, 7, none⟩ = some (.int .u16 r.f) ∧ w'.cell? ⟨rb, 8, none⟩ = some (.int .u16 r.t) ∧ w'.cell? ⟨rb, 9, none⟩ = some (.int .u32 r.ia) ∧ w'.cell? ⟨rb, 10, none⟩ = some (.int .u16 r.ip) ∧ w'.cell? ⟨w.heap.size, 0, none⟩ = some (.int .i64 x.k) ∧ w'.cell? ⟨w.heap.size, 1, none⟩ = some (.int .u8 x.p) ∧ w'.cell? ⟨w.heap.size, 2, none⟩ = some (.int .u32 x.sa) ∧ w'.cell? ⟨w.heap.size, 3, none⟩ = some (.int .i64 x.sb) ∧ w'.cell? ⟨w.heap.size, 4, none⟩ = some (.int .u32 x.da) ∧ w'.cell? ⟨w.heap.size, 5, none⟩ = some (.int .i64 x.db) ∧ w'.cell? ⟨w.heap.size, 6, none⟩ = some (.int .u32 x.e) ∧ w'.cell? ⟨w.heap.size, 7, none⟩ = some (.int .u16 x.f) ∧ w'.cell? ⟨w.heap.size, 8, none⟩ = some (.int .u16 x.t) ∧ w'.cell? ⟨w.heap.size, 9, none⟩ = some (.int .u32 x.ia) ∧ w'.cell? ⟨w.heap.size, 10, none⟩ = some (.int .u16 x.ip) ∧ True)) (first | assumption | exact SK.out _ _ hS0 (Below.refl _ _).drew | exact SK.out _ _ hS0 (fresh_below _ _).drew | exact SK.out _ _ (by assumption) (fresh_below _ _) | (refine SK.out _ _ ?_ (by assumption); assumption))
    (first | (go_at_call 34; (with_reducible refine (C1.out _ (FS.out _ (by assumption)) H.out).mono ?_); rintro e wq ⟨rfl, bq⟩) | (go_at_call 34; (with_reducible refine (C2.out _ (FS.out _ (by assumption)) H.out).mono ?_); rintro e wq ⟨rfl, bq⟩) | (go_at_call 33; (with_reducible refine (C3.out _).mono ?_); rintro e wq ⟨rfl, bq⟩))
  all_goals
    go_wp2_with fail
    go_ret
    exact ⟨rfl, (by first | exact FS.out _ (by assumption) | exact bstep (FS.out _ (by assumption)) (fresh_below _ _) | exact bstep (bstep (FS.out _ (by assumption)) (fresh_below _ _)) (fresh_below _ _))⟩
end Go.Proofs.YtilfcikhipadpaaDoor
end

section
/- rules: a table with its rules; Add. -/
set_option linter.unusedVariables false
set_option linter.unusedSimpArgs false
namespace Go.Proofs.YtilfcikhipadpaaDoor
open Go.RowKit Go.Lib
attribute [local go_sem] Oper.semAt_some

/-- a table and its rules, in memory -/
structure TS (W : World) (B : Nat) (o ip b : Int) (l : List Rule) (v : Value) : Prop where
  tbl : Tbl W B o ip b v
  row : RR W v l
  off : v.ownBlock ≠ some B
theorem TS.below {W W' : World} {B : Nat} {o ip b : Int} {l : List Rule} {v : Value} (h : TS W B o ip b l v) (k : Below W.heap.size W W') : TS W' B o ip b l v := ⟨h.tbl.below k, h.row.below k, h.off⟩
theorem Cells.only {W W' : World} {b : Nat} {cs : Array Value} {T : TypeId} {X : Nat → Prop} (h : Cells W b cs T) (k : Only X W W') (hx : ¬ X b) : Cells W' b cs T := (k.block b h.lt hx).trans h
theorem RR.only {W W' : World} {v : Value} {l : List Rule} {X : Nat → Prop} (h : RR W v l) (k : Only X W W') (hx : ∀ g, v.ownBlock = some g → ¬ X g) : RR W' v l := h.same fun g hg => k.block g (h.row hg) (hx g hg)
theorem TS.only {W W' : World} {B : Nat} {o ip b : Int} {l : List Rule} {v : Value} {X : Nat → Prop} (h : TS W B o ip b l v) (k : Only X W W') (h1 : ¬ X B) (h2 : ∀ g, v.ownBlock = some g → ¬ X g) : TS W' B o ip b l v := ⟨Cells.only h.tbl k h1, h.row.only k h2, h.off⟩
theorem Only.mono {X Y : Nat → Prop} {A C : World} (h : Only X A C) (k : ∀ i, X i → Y i) : Only Y A C := ⟨h.os, h.tape, h.output, h.size, fun i hi hx => h.block i hi fun hX => hx (k i hX)⟩
theorem Only.setAt {X : Nat → Prop} {A B : World} (h : Only X A B) {b : Nat} (i : Nat) (v : Value) (hb : X b ∨ A.heap.size ≤ b) : Only X A (B.setCell ⟨b, i, none⟩ v) := Only.setCells_ [v] i B h hb
theorem Only.drew {X : Nat → Prop} {A B : World} (h : Only X A B) : Only X A B.drew := ⟨h.os, h.tape, h.output, h.size, h.block⟩
theorem slice_of {W : World} {v : Value} {l : List Rule} (h : RR W v l) : ∃ A c, v = .slice A l.length c := by
  rcases h.2 with ⟨h1, h2⟩ | ⟨g, c, cur, h1, _⟩
  · exact ⟨none, 0, by rw [h1, h2]⟩
  · exact ⟨_, _, h1⟩

/-- what is left behind a call on a table: its answer, and the table's rules -/
def Post (w : World) (B : Nat) (o ip b : Int) (v : Value) (l' : List Rule) (rv : Value) (e : Ending) (w' : World) : Prop :=
  e = .returned rv ∧ ∃ v', TS w' B o ip b l' v' ∧ Only (fun k => k = B ∨ v.ownBlock = some k) w w' ∧ ∀ g, v'.ownBlock = some g → v.ownBlock = some g ∨ w.heap.size ≤ g
theorem Post.keep {w w' : World} {B : Nat} {o ip b : Int} {l : List Rule} {v : Value} {rv : Value} (h : TS w B o ip b l v) (k : Below w.heap.size w w') : Post w B o ip b v l rv (.returned rv) w' :=
  ⟨rfl, v, h.below k, Only.of_below k (Nat.le_refl _), fun g hg => Or.inl hg⟩

/-- the answer of Add, and the rules behind it -/
def addC (o ip b : Int) (l : List Rule) (i : Int) (r : Rule) : Int := if mayR ip b r = false then 2 else if i < 0 ∨ (l.length : Int) < i then 2 else if 32 ≤ l.length then 5 else if (l.any fun x => clashR (wholeR o x) (wholeR o r)) = true then 11 else 0
def addL (o ip b : Int) (l : List Rule) (i : Int) (r : Rule) : List Rule := if addC o ip b l i r = 0 then l.take i.toNat ++ r :: l.drop i.toNat else l

set_option maxHeartbeats 4000000 in
set_option maxRecDepth 100000 in
theorem t_Add_yes (w : World) (B : Nat) (o ip b : Int) (v : Value) (l : List Rule) (i : Nat) (r : Rule) (h : TS w B o ip b l v) (hip : 0 ≤ ip ∧ ip ≤ 4294967295) (hr : r.Ok) (hm : mayR ip b r = true) (hi : i ≤ l.length) (hn : l.length < 32) (hc : (l.any fun x => clashR (wholeR o x) (wholeR o r)) = false) :
    Calls Tryd.prog 22 #[.pointer (some ⟨B, 0, none⟩), .int .i64 i, .agg r.cells] w (Post w B o ip b v (l.take i ++ r :: l.drop i) (.int .i64 0)) := by
  obtain ⟨A, c, hv⟩ := slice_of h.row
  have c0 : ∀ W, Below w.heap.size w W → Calls Tryd.prog 30 #[.pointer (some ⟨B, 0, none⟩), .agg r.cells] W (Ret (.int .i64 0) W) := fun W hW => by
    have := t_Check W B o ip b v r (Tbl.below h.tbl hW) hip hr
    rwa [show chkR ip b r = 0 by unfold chkR; rw [if_pos hm]] at this
  have c1 : ∀ W, Below w.heap.size w W → ∀ tb rb T, Cells W tb #[.pointer (some ⟨B, 0, none⟩)] T → Cells W rb r.cells 77 → Calls Tryd.prog 31 #[v, .func (.func 32) #[] #[.pointer (some ⟨tb, 0, none⟩), .pointer (some ⟨rb, 0, none⟩)]] W (Ret (.bool false) W) := fun W hW tb rb T h1 h2 => by
    have := ContainsFuncRR (fun x => clashR (wholeR o x) (wholeR o r)) 32 #[.pointer (some ⟨tb, 0, none⟩), .pointer (some ⟨rb, 0, none⟩)] (enters_of Tryd.func32 (by kernel_rfl) rfl) v l W (RR.below h.row hW) (fun W' x _ hb => (t_Add1 W' B o ip b v x r tb rb T (Tbl.below (Tbl.below h.tbl hW) hb) (Cells.below hb h1) (Cells.below hb h2)).mono fun e w2 k => ⟨k.1, bstep hb k.2⟩) (by omega)
    rwa [hc] at this
  have c2 : ∀ W, Below w.heap.size w W → ∀ vb, v.ownBlock ≠ some vb → Cells W vb r.cells 77 → _ := fun W hW vb h1 h2 => InsertR v l i r vb W (RR.below h.row hW) hi (by omega) h1 h2
  have hlt := fun g hg => RR.row h.row (g := g) hg
  have hBlt : B < w.heap.size := Cells.lt h.tbl
  have hoff := h.off
  have hT := h.tbl
  obtain ⟨L, hL⟩ : ∃ L, L = l.take i ++ r :: l.drop i := ⟨_, rfl⟩
  rw [← hL] at c2 ⊢
  have hi' : ¬ ((l.length : Int) < (i : Int)) := by omega
  have hn' : ¬ ((32 : Int) ≤ (l.length : Int)) := by omega
  obtain ⟨n, hnn⟩ : ∃ n, n = l.length := ⟨_, rfl⟩
  rw [hv, ← hnn] at c1 c2 hT
  rw [← hnn] at hi hn hi' hn' hv
  obtain ⟨cs, hcs⟩ : ∃ cs, cs = r.cells := ⟨_, rfl⟩
  unfold Rule.cells at *
  have HV := hide hv; have C0 := hide c0; have C1 := hide c1; have C2 := hide c2; have H := hide h; have HT := hide hT; have HL := hide hlt; have HO := hide hoff; have HB := hide hBlt
  clear hv c0 c1 c2 h hr hm hc hnn hL hT hlt hoff hBlt hcs
  go_enter Tryd.func22, Tryd.ntmps22
  have t3 := Cells.new w #[.pointer (some ⟨B, 0, none⟩)] 57
  replace t3 := Cells.below (fresh_below (w.alloc (.cells #[.pointer (some ⟨B, 0, none⟩)] 57)) (.cells #[.int .i64 r.k, .int .u8 r.p, .int .u32 r.sa, .int .i64 r.sb, .int .u32 r.da, .int .i64 r.db, .int .u32 r.e, .int .u16 r.f, .int .u16 r.t, .int .u32 r.ia, .int .u16 r.ip] 77)) t3
  have t5 := Cells.new (w.alloc (.cells #[.pointer (some ⟨B, 0, none⟩)] 57)) #[.int .i64 r.k, .int .u8 r.p, .int .u32 r.sa, .int .i64 r.sb, .int .u32 r.da, .int .i64 r.db, .int .u32 r.e, .int .u16 r.f, .int .u16 r.t, .int .u32 r.ia, .int .u16 r.ip] 77
  have l0 : Below w.heap.size w ((w.alloc (.cells #[.pointer (some ⟨B, 0, none⟩)] 57)).alloc (.cells #[.int .i64 r.k, .int .u8 r.p, .int .u32 r.sa, .int .i64 r.sb, .int .u32 r.da, .int .i64 r.db, .int .u32 r.e, .int .u16 r.f, .int .u16 r.t, .int .u32 r.ia, .int .u16 r.ip] 77)) := bstep (fresh_below _ _) (fresh_below _ _)
  rw [World.size_alloc] at t5
  have L0 := hide l0; have T3 := hide t3; have T5 := hide t5
  clear l0 t3 t5
  go_upto_region 1 with fail
  have l0 := L0.out; have t3 := T3.out; have t5 := T5.out
  clear L0 T3 T5
  generalize ((w.alloc (.cells #[.pointer (some ⟨B, 0, none⟩)] 57)).alloc (.cells #[.int .i64 r.k, .int .u8 r.p, .int .u32 r.sa, .int .i64 r.sb, .int .u32 r.da, .int .i64 r.db, .int .u32 r.e, .int .u16 r.f, .int .u16 r.t, .int .u32 r.ia, .int .u16 r.ip] 77)) = w1 at *
  have hT1 := Cells.below l0 HT.out
  have qhT1_0 : ∀ W', Below w1.heap.size w1 W' → World.cell? W' ⟨B, 0, none⟩ = some (.bool true) := fun W' h => Cells.at_ (Cells.below h hT1) 0
  have qhT1_1 : ∀ W', Below w1.heap.size w1 W' → World.cell? W' ⟨B, 1, none⟩ = some (.int .u32 o) := fun W' h => Cells.at_ (Cells.below h hT1) 1
  have qhT1_2 : ∀ W', Below w1.heap.size w1 W' → World.cell? W' ⟨B, 2, none⟩ = some (.int .u32 ip) := fun W' h => Cells.at_ (Cells.below h hT1) 2
  have qhT1_3 : ∀ W', Below w1.heap.size w1 W' → World.cell? W' ⟨B, 3, none⟩ = some (.int .i64 b) := fun W' h => Cells.at_ (Cells.below h hT1) 3
  have qhT1_4 : ∀ W', Below w1.heap.size w1 W' → World.cell? W' ⟨B, 4, none⟩ = some (.slice A n c) := fun W' h => Cells.at_ (Cells.below h hT1) 4
  have qt3_0 : ∀ W', Below w1.heap.size w1 W' → World.cell? W' ⟨w.heap.size, 0, none⟩ = some (.pointer (some ⟨B, 0, none⟩)) := fun W' h => Cells.at_ (Cells.below h t3) 0
  have qt5_0 : ∀ W', Below w1.heap.size w1 W' → World.cell? W' ⟨w.heap.size + 1, 0, none⟩ = some (.int .i64 r.k) := fun W' h => Cells.at_ (Cells.below h t5) 0
  have qt5_1 : ∀ W', Below w1.heap.size w1 W' → World.cell? W' ⟨w.heap.size + 1, 1, none⟩ = some (.int .u8 r.p) := fun W' h => Cells.at_ (Cells.below h t5) 1
  have qt5_2 : ∀ W', Below w1.heap.size w1 W' → World.cell? W' ⟨w.heap.size + 1, 2, none⟩ = some (.int .u32 r.sa) := fun W' h => Cells.at_ (Cells.below h t5) 2
  have qt5_3 : ∀ W', Below w1.heap.size w1 W' → World.cell? W' ⟨w.heap.size + 1, 3, none⟩ = some (.int .i64 r.sb) := fun W' h => Cells.at_ (Cells.below h t5) 3
  have qt5_4 : ∀ W', Below w1.heap.size w1 W' → World.cell? W' ⟨w.heap.size + 1, 4, none⟩ = some (.int .u32 r.da) := fun W' h => Cells.at_ (Cells.below h t5) 4
  have qt5_5 : ∀ W', Below w1.heap.size w1 W' → World.cell? W' ⟨w.heap.size + 1, 5, none⟩ = some (.int .i64 r.db) := fun W' h => Cells.at_ (Cells.below h t5) 5
  have qt5_6 : ∀ W', Below w1.heap.size w1 W' → World.cell? W' ⟨w.heap.size + 1, 6, none⟩ = some (.int .u32 r.e) := fun W' h => Cells.at_ (Cells.below h t5) 6
  have qt5_7 : ∀ W', Below w1.heap.size w1 W' → World.cell? W' ⟨w.heap.size + 1, 7, none⟩ = some (.int .u16 r.f) := fun W' h => Cells.at_ (Cells.below h t5) 7
  have qt5_8 : ∀ W', Below w1.heap.size w1 W' → World.cell? W' ⟨w.heap.size + 1, 8, none⟩ = some (.int .u16 r.t) := fun W' h => Cells.at_ (Cells.below h t5) 8
  have qt5_9 : ∀ W', Below w1.heap.size w1 W' → World.cell? W' ⟨w.heap.size + 1, 9, none⟩ = some (.int .u32 r.ia) := fun W' h => Cells.at_ (Cells.below h t5) 9
  have qt5_10 : ∀ W', Below w1.heap.size w1 W' → World.cell? W' ⟨w.heap.size + 1, 10, none⟩ = some (.int .u16 r.ip) := fun W' h => Cells.at_ (Cells.below h t5) 10
  have bb : Below w1.heap.size w1 w1 := Below.refl _ _
  have bA : ∀ W o, Below w1.heap.size w1 W → Below w1.heap.size w1 (W.alloc o) := fun W o h => bstep h (fresh_below W o)
  have bD : ∀ W, Below w1.heap.size w1 W → Below w1.heap.size w1 W.drew := fun W h => h.drew
  have nB : ¬ (Value.slice A n c).ownBlock = some B := fun e => HO.out (by rw [HV.out]; exact e)
  have nL : ∀ g, (Value.slice A n c).ownBlock = some g → g < w.heap.size := fun g e => HL.out g (by rw [HV.out]; exact e)
  have C2' := hide (fun (W : World) (hW : Below w1.heap.size w1 W) (vb : Nat) (hvb : w1.heap.size ≤ vb) hc => (C2.out W (bstep l0 hW) vb (fun e => by have := nL vb e; have := l0.size; omega) hc).mono (R' := fun e w7 => ∃ A' n' c', e = .returned (.slice A' n' c') ∧ RR w7 (.slice A' n' c') L ∧ Only (fun k => k = B ∨ (Value.slice A n c).ownBlock = some k) w1 w7 ∧ Cells w7 B #[.bool true, .int .u32 o, .int .u32 ip, .int .i64 b, .slice A n c] 89 ∧ ∀ g, (Value.slice A' n' c').ownBlock = some g → (Value.slice A n c).ownBlock = some g ∨ w.heap.size ≤ g) (by
    rintro e w7 ⟨v', rfl, r7, o7, f7⟩
    obtain ⟨A', c', rfl⟩ := slice_of r7
    refine ⟨A', _, c', rfl, r7, Only.trans (Only.of_below hW (Nat.le_refl _)) (Only.mono o7 fun i hi => Or.inr hi), Cells.only (Cells.below hW hT1) o7 nB, fun g hg => ?_⟩
    rcases f7 with f7 | ⟨g', h1, h2⟩
    · exact Or.inl (f7 ▸ hg)
    · rw [h2] at hg; cases hg
      have := (bstep l0 hW).size
      exact Or.inr (by omega)))
  have EX := hide (fun (W : World) (hx : Only (fun k => k = B ∨ (Value.slice A n c).ownBlock = some k) w1 W) => (show World.cell? (W) ⟨w.heap.size, 0, none⟩ = some (.pointer (some ⟨B, 0, none⟩)) ∧ World.cell? (W) ⟨w.heap.size + 1, 0, none⟩ = some (.int .i64 r.k) ∧ World.cell? (W) ⟨w.heap.size + 1, 1, none⟩ = some (.int .u8 r.p) ∧ World.cell? (W) ⟨w.heap.size + 1, 2, none⟩ = some (.int .u32 r.sa) ∧ World.cell? (W) ⟨w.heap.size + 1, 3, none⟩ = some (.int .i64 r.sb) ∧ World.cell? (W) ⟨w.heap.size + 1, 4, none⟩ = some (.int .u32 r.da) ∧ World.cell? (W) ⟨w.heap.size + 1, 5, none⟩ = some (.int .i64 r.db) ∧ World.cell? (W) ⟨w.heap.size + 1, 6, none⟩ = some (.int .u32 r.e) ∧ World.cell? (W) ⟨w.heap.size + 1, 7, none⟩ = some (.int .u16 r.f) ∧ World.cell? (W) ⟨w.heap.size + 1, 8, none⟩ = some (.int .u16 r.t) ∧ World.cell? (W) ⟨w.heap.size + 1, 9, none⟩ = some (.int .u32 r.ia) ∧ World.cell? (W) ⟨w.heap.size + 1, 10, none⟩ = some (.int .u16 r.ip) from by
    have k3 := Cells.only t3 hx (by rintro (e | e); · have := HB.out; omega
                                    · have := nL _ e; omega)
    have k5 := Cells.only t5 hx (by rintro (e | e); · have := HB.out; omega
                                    · have := nL _ e; omega)
    exact ⟨Cells.at_ (k3) 0, Cells.at_ (k5) 0, Cells.at_ (k5) 1, Cells.at_ (k5) 2, Cells.at_ (k5) 3, Cells.at_ (k5) 4, Cells.at_ (k5) 5, Cells.at_ (k5) 6, Cells.at_ (k5) 7, Cells.at_ (k5) 8, Cells.at_ (k5) 9, Cells.at_ (k5) 10⟩))
  have NC := hide (fun (W : World) => (Cells.new W.drew #[.int .i64 r.k, .int .u8 r.p, .int .u32 r.sa, .int .i64 r.sb, .int .u32 r.da, .int .i64 r.db, .int .u32 r.e, .int .u16 r.f, .int .u16 r.t, .int .u32 r.ia, .int .u16 r.ip] 77 : Cells (W.drew.alloc (.cells #[.int .i64 r.k, .int .u8 r.p, .int .u32 r.sa, .int .i64 r.sb, .int .u32 r.da, .int .i64 r.db, .int .u32 r.e, .int .u16 r.f, .int .u16 r.t, .int .u32 r.ia, .int .u16 r.ip] 77)) W.heap.size #[.int .i64 r.k, .int .u8 r.p, .int .u32 r.sa, .int .i64 r.sb, .int .u32 r.da, .int .i64 r.db, .int .u32 r.e, .int .u16 r.f, .int .u16 r.t, .int .u32 r.ia, .int .u16 r.ip] 77))
  have T3 := hide t3; have T5 := hide t5; have L0 := hide l0; have NB := hide nB; have NL := hide nL
  clear l0 t3 t5 hT1 nB nL C2
  go_wp2_with (first | (go_at_call 30; (with_reducible refine (C0.out _ (bstep L0.out (by assumption))).mono ?_); rintro e2 w2 ⟨rfl, b2⟩; have b2' := bstep (by assumption : Below w1.heap.size w1 _) b2; clear b2) | (go_at_call 31; (with_reducible refine (C1.out _ (bstep L0.out (by assumption)) _ _ 57 (Cells.below (by assumption) T3.out) (Cells.below (by assumption) T5.out)).mono ?_); rintro e2 w2 ⟨rfl, b2⟩; have b2' := bstep (by assumption : Below w1.heap.size w1 _) b2; clear b2))
  refine wp_region_held_drew (S := fun W => Only (fun k => k = B ∨ (Value.slice A n c).ownBlock = some k) w1 W) (by kernel_rfl) ((Only.of_below b2' (Nat.le_refl _)).drew) (fun hS0 => ?_)
  refine wpAnyH_take (i := 0) (v := ?v0_1) rfl (by kernel_rfl) (by kernel_rfl) (by kernel_rfl) (fun _ _ _ h => h) (Or.inl (And.intro (by kernel_rfl) ?q0_1)) hS0 ?r0_1; (case q0_1 => (intro w hx; obtain ⟨hy0, hy1, hy2, hy3, hy4, hy5, hy6, hy7, hy8, hy9, hy10, hy11⟩ := EX.out w hx; (try dsimp only); (try go_simp); (try with_reducible rfl)))
  (try simp only [Act.put, List.setIfInBounds_toArray, List.set_cons_zero, List.set_cons_succ, List.getElem_toArray, List.getElem_cons_succ, List.getElem_cons_zero])
  refine wpAnyH_take (i := 1) (v := ?v1_2) rfl (by kernel_rfl) (by kernel_rfl) (by kernel_rfl) (fun _ _ _ h => h) (Or.inl (And.intro (by kernel_rfl) ?q1_2)) hS0 ?r1_2; (case q1_2 => (intro w hx; obtain ⟨hy0, hy1, hy2, hy3, hy4, hy5, hy6, hy7, hy8, hy9, hy10, hy11⟩ := EX.out w hx; (try dsimp only); (try go_simp); (try with_reducible rfl)))
  (try simp only [Act.put, List.setIfInBounds_toArray, List.set_cons_zero, List.set_cons_succ, List.getElem_toArray, List.getElem_cons_succ, List.getElem_cons_zero])
  refine wpAnyH_take (i := 2) (v := ?v2_3) rfl (by kernel_rfl) (by kernel_rfl) (by kernel_rfl) (fun _ _ _ h => h) (Or.inl (And.intro (by kernel_rfl) ?q2_3)) hS0 ?r2_3; (case q2_3 => (intro w hx; obtain ⟨hy0, hy1, hy2, hy3, hy4, hy5, hy6, hy7, hy8, hy9, hy10, hy11⟩ := EX.out w hx; (try dsimp only); (try go_simp); (try with_reducible rfl)))
  (try simp only [Act.put, List.setIfInBounds_toArray, List.set_cons_zero, List.set_cons_succ, List.getElem_toArray, List.getElem_cons_succ, List.getElem_cons_zero])
  refine wpAnyH_take (i := 3) (v := ?v3_4) rfl (by kernel_rfl) (by kernel_rfl) (by kernel_rfl) (fun _ _ _ h => h) (Or.inl (And.intro (by kernel_rfl) ?q3_4)) hS0 ?r3_4; (case q3_4 => (intro w hx; obtain ⟨hy0, hy1, hy2, hy3, hy4, hy5, hy6, hy7, hy8, hy9, hy10, hy11⟩ := EX.out w hx; (try dsimp only); (try go_simp); (try with_reducible rfl)))
  (try simp only [Act.put, List.setIfInBounds_toArray, List.set_cons_zero, List.set_cons_succ, List.getElem_toArray, List.getElem_cons_succ, List.getElem_cons_zero])
  refine wpAnyH_take (i := 5) (v := ?v5_5) rfl (by kernel_rfl) (by kernel_rfl) (by kernel_rfl) (fun _ _ _ h => h) (Or.inl (And.intro (by kernel_rfl) ?q5_5)) hS0 ?r5_5; (case q5_5 => (intro w hx; obtain ⟨hy0, hy1, hy2, hy3, hy4, hy5, hy6, hy7, hy8, hy9, hy10, hy11⟩ := EX.out w hx; (try dsimp only); (try go_simp); (try with_reducible rfl)))
  (try simp only [Act.put, List.setIfInBounds_toArray, List.set_cons_zero, List.set_cons_succ, List.getElem_toArray, List.getElem_cons_succ, List.getElem_cons_zero])
  refine wpAnyH_take (i := 6) (v := ?v6_6) rfl (by kernel_rfl) (by kernel_rfl) (by kernel_rfl) (fun _ _ _ h => h) (Or.inl (And.intro (by kernel_rfl) ?q6_6)) hS0 ?r6_6; (case q6_6 => (intro w hx; obtain ⟨hy0, hy1, hy2, hy3, hy4, hy5, hy6, hy7, hy8, hy9, hy10, hy11⟩ := EX.out w hx; (try dsimp only); (try go_simp); (try with_reducible rfl)))
  (try simp only [Act.put, List.setIfInBounds_toArray, List.set_cons_zero, List.set_cons_succ, List.getElem_toArray, List.getElem_cons_succ, List.getElem_cons_zero])
  refine wpAnyH_ready (rs := [4, 7]) (by kernel_rfl) (by simp) ?_
  refine AllReadyH.cons rfl (fun K hK => ?_) (AllReadyH.cons rfl (fun K hK => ?_) AllReadyH.nil)
  rw [if_pos (by kernel_rfl)]
  (try simp only [List.getElem_toArray, List.getElem_cons_succ, List.getElem_cons_zero])
  go_simp
  refine hK.out _ _ (by (first | with_reducible exact hS0 | exact Only.then hS0 (fresh_below _ _) | with_reducible assumption | exact Only.setAt hS0 4 _ (Or.inl (Or.inl rfl)))) (fun hS0 => ?_)
  clear hK K
  (try simp only [Act.put, List.setIfInBounds_toArray, List.set_cons_zero, List.set_cons_succ, List.getElem_toArray, List.getElem_cons_succ, List.getElem_cons_zero])
  refine wpAnyH_ready (rs := [7]) (by kernel_rfl) (by simp) ?_
  refine AllReadyH.cons rfl (fun K hK => ?_) AllReadyH.nil
  rw [if_pos (by kernel_rfl)]
  (try simp only [List.getElem_toArray, List.getElem_cons_succ, List.getElem_cons_zero])
  go_simp
  refine hK.out _ _ (by (first | with_reducible exact hS0 | exact Only.then hS0 (fresh_below _ _) | with_reducible assumption | exact Only.setAt hS0 4 _ (Or.inl (Or.inl rfl)))) (fun hS0 => ?_)
  clear hK K
  (try simp only [Act.put, List.setIfInBounds_toArray, List.set_cons_zero, List.set_cons_succ, List.getElem_toArray, List.getElem_cons_succ, List.getElem_cons_zero])
  rotate_left 1
  rw [if_pos (by kernel_rfl)]
  (try simp only [List.getElem_toArray, List.getElem_cons_succ, List.getElem_cons_zero])
  go_simp
  refine hK.out _ _ (by (first | with_reducible exact hS0 | exact Only.then hS0 (fresh_below _ _) | with_reducible assumption | exact Only.setAt hS0 4 _ (Or.inl (Or.inl rfl)))) (fun hS0 => ?_)
  clear hK K
  (try simp only [Act.put, List.setIfInBounds_toArray, List.set_cons_zero, List.set_cons_succ, List.getElem_toArray, List.getElem_cons_succ, List.getElem_cons_zero])
  refine wpAnyH_ready (rs := [4]) (by kernel_rfl) (by simp) ?_
  refine AllReadyH.cons rfl (fun K hK => ?_) AllReadyH.nil
  rw [if_pos (by kernel_rfl)]
  (try simp only [List.getElem_toArray, List.getElem_cons_succ, List.getElem_cons_zero])
  go_simp
  refine hK.out _ _ (by (first | with_reducible exact hS0 | exact Only.then hS0 (fresh_below _ _) | with_reducible assumption | exact Only.setAt hS0 4 _ (Or.inl (Or.inl rfl)))) (fun hS0 => ?_)
  clear hK K
  (try simp only [Act.put, List.setIfInBounds_toArray, List.set_cons_zero, List.set_cons_succ, List.getElem_toArray, List.getElem_cons_succ, List.getElem_cons_zero])
  all_goals refine wpAnyH_ready (rs := [8]) (by kernel_rfl) (by simp) ?_
  all_goals refine AllReadyH.cons rfl (fun K hK => ?_) AllReadyH.nil
  all_goals (rw [if_pos (by kernel_rfl)]; (try simp only [List.getElem_toArray, List.getElem_cons_succ, List.getElem_cons_zero]); go_simp; (refine (C2'.out _ (by (repeat' (first | with_reducible assumption | with_reducible refine bA _ _ ?_ | with_reducible refine bD _ ?_))) w2.heap.size b2'.size (NC.out w2)).mono ?_; rintro e w7 ⟨A', n', c', rfl, r7, o7, T7, f7⟩; have x4 : w7.cell? ⟨B, 4, none⟩ = some (.slice A n c) := Cells.at_ T7 4; have y4 := Cells.free T7 4); (try go_wp2_with fail); refine hK.out _ _ (by (first | with_reducible exact hS0 | exact Only.then hS0 (fresh_below _ _) | with_reducible assumption | exact Only.setAt hS0 4 _ (Or.inl (Or.inl rfl)))) (fun hS0 => ?_); clear hK K; (try simp only [Act.put, List.setIfInBounds_toArray, List.set_cons_zero, List.set_cons_succ, List.getElem_toArray, List.getElem_cons_succ, List.getElem_cons_zero]))
  all_goals refine wpAnyH_ready (rs := [9]) (by kernel_rfl) (by simp) ?_
  all_goals refine AllReadyH.cons rfl (fun K hK => ?_) AllReadyH.nil
  all_goals (rw [if_pos (by kernel_rfl)]; (try simp only [List.getElem_toArray, List.getElem_cons_succ, List.getElem_cons_zero]); go_simp; refine hK.out _ _ (by (first | with_reducible exact hS0 | exact Only.then hS0 (fresh_below _ _) | with_reducible assumption | exact Only.setAt hS0 4 _ (Or.inl (Or.inl rfl)))) (fun hS0 => ?_); clear hK K; (try simp only [Act.put, List.setIfInBounds_toArray, List.set_cons_zero, List.set_cons_succ, List.getElem_toArray, List.getElem_cons_succ, List.getElem_cons_zero]))
  all_goals refine wpAnyH_ready (rs := [10]) (by kernel_rfl) (by simp) ?_
  all_goals refine AllReadyH.cons rfl (fun K hK => ?_) AllReadyH.nil
  all_goals (rw [if_pos (by kernel_rfl)]; (try simp only [List.getElem_toArray, List.getElem_cons_succ, List.getElem_cons_zero]); go_simp; refine hK.out _ _ (by (first | with_reducible exact hS0 | exact Only.then hS0 (fresh_below _ _) | with_reducible assumption | exact Only.setAt hS0 4 _ (Or.inl (Or.inl rfl)))) (fun hS0 => ?_); clear hK K; (try simp only [Act.put, List.setIfInBounds_toArray, List.set_cons_zero, List.set_cons_succ, List.getElem_toArray, List.getElem_cons_succ, List.getElem_cons_zero]))
  all_goals refine wpAnyH_ready (rs := [11]) (by kernel_rfl) (by simp) ?_
  all_goals refine AllReadyH.cons rfl (fun K hK => ?_) AllReadyH.nil
  all_goals (rw [if_pos (by kernel_rfl)]; (try simp only [List.getElem_toArray, List.getElem_cons_succ, List.getElem_cons_zero]); go_simp; refine hK.out _ _ (by (first | with_reducible exact hS0 | exact Only.then hS0 (fresh_below _ _) | with_reducible assumption | exact Only.setAt hS0 4 _ (Or.inl (Or.inl rfl)))) (fun hS0 => ?_); clear hK K; (try simp only [Act.put, List.setIfInBounds_toArray, List.set_cons_zero, List.set_cons_succ, List.getElem_toArray, List.getElem_cons_succ, List.getElem_cons_zero]))
  all_goals refine wpAnyH_done (by kernel_rfl) ?_ _
  all_goals
    have f7 := f7; have r7 := r7; have T7 := T7
    have F7 := hide f7; have R7 := hide r7; have T8 := hide T7; have O8 := hide hS0
    clear f7 r7 T7 hS0 o7 x4 y4
    go_wp2_with fail
    go_ret
    have nb : ∀ g, (Value.slice A' n' c').ownBlock = some g → g ≠ B := fun g hg => by
      rcases F7.out g hg with h | h
      · rintro rfl; exact NB.out h
      · have := HB.out; omega
    refine ⟨rfl, _, ⟨Cells.set_ T8.out 4 _, R7.out.same fun g hg => Below.heap_setCell _ ⟨B, 4, none⟩ _ g (nb g hg), fun e => nb B e rfl⟩, ?_, ?_⟩
    · rw [HV.out]
      exact Only.trans (Only.of_below L0.out (Nat.le_refl _)) O8.out
    · rw [HV.out]
      exact F7.out
end Go.Proofs.YtilfcikhipadpaaDoor
end
