/- rules: the closures of Static, Own, Source, Outer. -/
import Derived.Test.YtbboajhdijabbaaRule14
set_option linter.unusedVariables false
set_option linter.unusedSimpArgs false
namespace Go.Proofs.Ytbboajhdijabbaa
open Go.RowKit Go.Lib
attribute [local go_sem] Oper.semAt_some

def stP (p ei ep : Int) (x : Rule) : Bool := decide (x.k = 3) && decide (x.p = p) && decide (x.e = ei) && decide (x.f = ep)
def owP (p ei ep : Int) (x : Rule) : Bool := decide (x.k = 3) && decide (x.p = p) && (decide (x.ia = ei) && decide (x.ip = ep))
def srcP (p si di : Int) (x : Rule) : Bool := !decide (x.k = 3) && (decide (x.p = 0) || decide (x.p = p)) && hasP x.sa x.sb si && hasP x.da x.db di
def ouP (o a : Int) (x : Rule) : Bool := decide ((wholeR o x).e = a)

set_option maxHeartbeats 4000000 in
set_option maxRecDepth 100000 in
theorem t_Static1 (w : World) (p ei ep : Int) (x : Rule) (pb eb : Nat) (T T' : TypeId) (hp : Cells w pb #[.int .u8 p] T) (he : Cells w eb #[.int .u32 ei, .int .u16 ep] T') :
    Calls Try.prog 54 #[.agg x.cells, .pointer (some ⟨pb, 0, none⟩), .pointer (some ⟨eb, 0, none⟩)] w (Ret (.bool (stP p ei ep x)) w) := by
  obtain ⟨q, hq⟩ : ∃ q, q = stP p ei ep x := ⟨_, rfl⟩
  rw [← hq]
  unfold stP at hq
  unfold Rule.cells
  have HQ := hide hq; have HP := hide hp; have HE := hide he
  clear hq hp he
  go_enter Try.func54, Try.ntmps54
  have d := Cells.new w #[.int .i64 x.k, .int .u8 x.p, .int .u32 x.sa, .int .i64 x.sb, .int .u32 x.da, .int .i64 x.db, .int .u32 x.e, .int .u16 x.f, .int .u16 x.t, .int .u32 x.ia, .int .u16 x.ip] 30
  have l0 := fresh_below w (.cells #[.int .i64 x.k, .int .u8 x.p, .int .u32 x.sa, .int .i64 x.sb, .int .u32 x.da, .int .i64 x.db, .int .u32 x.e, .int .u16 x.f, .int .u16 x.t, .int .u32 x.ia, .int .u16 x.ip] 30)
  have L0 := hide l0; have D0 := hide d
  clear l0 d
  go_upto_region 1 with fail
  have l0 := L0.out; have d := D0.out
  clear L0 D0
  generalize (w.alloc (.cells #[.int .i64 x.k, .int .u8 x.p, .int .u32 x.sa, .int .i64 x.sb, .int .u32 x.da, .int .i64 x.db, .int .u32 x.e, .int .u16 x.f, .int .u16 x.t, .int .u32 x.ia, .int .u16 x.ip] 30)) = w1 at *
  have hP := Cells.below l0 HP.out; have hE := Cells.below l0 HE.out
  have xhP_0 : w1.cell? ⟨pb, 0, none⟩ = some (.int .u8 p) := hP.at_ 0
  have xhE_0 : w1.cell? ⟨eb, 0, none⟩ = some (.int .u32 ei) := hE.at_ 0
  have xhE_1 : w1.cell? ⟨eb, 1, none⟩ = some (.int .u16 ep) := hE.at_ 1
  have xd_0 : w1.cell? ⟨w.heap.size, 0, none⟩ = some (.int .i64 x.k) := d.at_ 0
  have xd_1 : w1.cell? ⟨w.heap.size, 1, none⟩ = some (.int .u8 x.p) := d.at_ 1
  have xd_2 : w1.cell? ⟨w.heap.size, 2, none⟩ = some (.int .u32 x.sa) := d.at_ 2
  have xd_3 : w1.cell? ⟨w.heap.size, 3, none⟩ = some (.int .i64 x.sb) := d.at_ 3
  have xd_4 : w1.cell? ⟨w.heap.size, 4, none⟩ = some (.int .u32 x.da) := d.at_ 4
  have xd_5 : w1.cell? ⟨w.heap.size, 5, none⟩ = some (.int .i64 x.db) := d.at_ 5
  have xd_6 : w1.cell? ⟨w.heap.size, 6, none⟩ = some (.int .u32 x.e) := d.at_ 6
  have xd_7 : w1.cell? ⟨w.heap.size, 7, none⟩ = some (.int .u16 x.f) := d.at_ 7
  have xd_8 : w1.cell? ⟨w.heap.size, 8, none⟩ = some (.int .u16 x.t) := d.at_ 8
  have xd_9 : w1.cell? ⟨w.heap.size, 9, none⟩ = some (.int .u32 x.ia) := d.at_ 9
  have xd_10 : w1.cell? ⟨w.heap.size, 10, none⟩ = some (.int .u16 x.ip) := d.at_ 10
  have L0 := hide l0
  clear l0 d hP hE
  go_wp2_with fail
  all_goals
    go_ret
    refine ⟨ret_bool ?_, L0.out⟩
    rw [HQ.out]
    clear HQ HP HE
    first | (simp [*]; done) | (simp [*]; rfl) | (simp [*]; omega) | (simp_all; done)

set_option maxHeartbeats 4000000 in
set_option maxRecDepth 100000 in
theorem t_Own1 (w : World) (p ei ep : Int) (x : Rule) (pb eb : Nat) (T T' : TypeId) (hp : Cells w pb #[.int .u8 p] T) (he : Cells w eb #[.int .u32 ei, .int .u16 ep] T') :
    Calls Try.prog 55 #[.agg x.cells, .pointer (some ⟨pb, 0, none⟩), .pointer (some ⟨eb, 0, none⟩)] w (Ret (.bool (owP p ei ep x)) w) := by
  obtain ⟨q, hq⟩ : ∃ q, q = owP p ei ep x := ⟨_, rfl⟩
  rw [← hq]
  unfold owP at hq
  unfold Rule.cells
  have HQ := hide hq; have HP := hide hp; have HE := hide he
  clear hq hp he
  go_enter Try.func55, Try.ntmps55
  have d := Cells.new w #[.int .i64 x.k, .int .u8 x.p, .int .u32 x.sa, .int .i64 x.sb, .int .u32 x.da, .int .i64 x.db, .int .u32 x.e, .int .u16 x.f, .int .u16 x.t, .int .u32 x.ia, .int .u16 x.ip] 30
  have l0 := fresh_below w (.cells #[.int .i64 x.k, .int .u8 x.p, .int .u32 x.sa, .int .i64 x.sb, .int .u32 x.da, .int .i64 x.db, .int .u32 x.e, .int .u16 x.f, .int .u16 x.t, .int .u32 x.ia, .int .u16 x.ip] 30)
  have L0 := hide l0; have D0 := hide d
  clear l0 d
  go_upto_region 1 with fail
  have l0 := L0.out; have d := D0.out
  clear L0 D0
  generalize (w.alloc (.cells #[.int .i64 x.k, .int .u8 x.p, .int .u32 x.sa, .int .i64 x.sb, .int .u32 x.da, .int .i64 x.db, .int .u32 x.e, .int .u16 x.f, .int .u16 x.t, .int .u32 x.ia, .int .u16 x.ip] 30)) = w1 at *
  have hP := Cells.below l0 HP.out; have hE := Cells.below l0 HE.out
  have xhP_0 : w1.cell? ⟨pb, 0, none⟩ = some (.int .u8 p) := hP.at_ 0
  have xhE_0 : w1.cell? ⟨eb, 0, none⟩ = some (.int .u32 ei) := hE.at_ 0
  have xhE_1 : w1.cell? ⟨eb, 1, none⟩ = some (.int .u16 ep) := hE.at_ 1
  have xd_0 : w1.cell? ⟨w.heap.size, 0, none⟩ = some (.int .i64 x.k) := d.at_ 0
  have xd_1 : w1.cell? ⟨w.heap.size, 1, none⟩ = some (.int .u8 x.p) := d.at_ 1
  have xd_2 : w1.cell? ⟨w.heap.size, 2, none⟩ = some (.int .u32 x.sa) := d.at_ 2
  have xd_3 : w1.cell? ⟨w.heap.size, 3, none⟩ = some (.int .i64 x.sb) := d.at_ 3
  have xd_4 : w1.cell? ⟨w.heap.size, 4, none⟩ = some (.int .u32 x.da) := d.at_ 4
  have xd_5 : w1.cell? ⟨w.heap.size, 5, none⟩ = some (.int .i64 x.db) := d.at_ 5
  have xd_6 : w1.cell? ⟨w.heap.size, 6, none⟩ = some (.int .u32 x.e) := d.at_ 6
  have xd_7 : w1.cell? ⟨w.heap.size, 7, none⟩ = some (.int .u16 x.f) := d.at_ 7
  have xd_8 : w1.cell? ⟨w.heap.size, 8, none⟩ = some (.int .u16 x.t) := d.at_ 8
  have xd_9 : w1.cell? ⟨w.heap.size, 9, none⟩ = some (.int .u32 x.ia) := d.at_ 9
  have xd_10 : w1.cell? ⟨w.heap.size, 10, none⟩ = some (.int .u16 x.ip) := d.at_ 10
  have L0 := hide l0
  clear l0 d hP hE
  go_wp2_with fail
  all_goals
    go_ret
    refine ⟨ret_bool ?_, L0.out⟩
    rw [HQ.out]
    clear HQ HP HE
    first | (simp [*]; done) | (simp [*]; rfl) | (simp [*]; omega) | (simp_all; done)

set_option maxHeartbeats 4000000 in
set_option maxRecDepth 100000 in
theorem t_Source1 (w : World) (p si sp di dp : Int) (x : Rule) (xb : Nat) (T : TypeId) (hb : Cells w xb #[.int .u8 p, .int .u32 si, .int .u16 sp, .int .u32 di, .int .u16 dp] T) (hx : x.Ok) (hs : 0 ≤ si ∧ si ≤ 4294967295) (hd : 0 ≤ di ∧ di ≤ 4294967295) :
    Calls Try.prog 52 #[.agg x.cells, .pointer (some ⟨xb, 0, none⟩)] w (Ret (.bool (srcP p si di x)) w) := by
  have c0 := fun W => addrs_Has x.sa x.sb si W hx.2.1 hs
  have c1 := fun W => addrs_Has x.da x.db di W hx.2.2.1 hd
  obtain ⟨q, hq⟩ : ∃ q, q = srcP p si di x := ⟨_, rfl⟩
  rw [← hq]
  unfold srcP at hq
  generalize hasP x.sa x.sb si = q1 at *
  generalize hasP x.da x.db di = q2 at *
  unfold Rule.cells
  have HQ := hide hq; have HB := hide hb; have C0 := hide c0; have C1 := hide c1
  clear hq hb hx hs hd c0 c1
  go_enter Try.func52, Try.ntmps52
  have d := Cells.new w #[.int .i64 x.k, .int .u8 x.p, .int .u32 x.sa, .int .i64 x.sb, .int .u32 x.da, .int .i64 x.db, .int .u32 x.e, .int .u16 x.f, .int .u16 x.t, .int .u32 x.ia, .int .u16 x.ip] 30
  have l0 := fresh_below w (.cells #[.int .i64 x.k, .int .u8 x.p, .int .u32 x.sa, .int .i64 x.sb, .int .u32 x.da, .int .i64 x.db, .int .u32 x.e, .int .u16 x.f, .int .u16 x.t, .int .u32 x.ia, .int .u16 x.ip] 30)
  have L0 := hide l0; have D0 := hide d
  clear l0 d
  go_upto_region 1 with fail
  have l0 := L0.out; have d := D0.out
  clear L0 D0
  generalize (w.alloc (.cells #[.int .i64 x.k, .int .u8 x.p, .int .u32 x.sa, .int .i64 x.sb, .int .u32 x.da, .int .i64 x.db, .int .u32 x.e, .int .u16 x.f, .int .u16 x.t, .int .u32 x.ia, .int .u16 x.ip] 30)) = w1 at *
  have hB := Cells.below l0 HB.out
  have qhB_0 : ∀ W', Below w1.heap.size w1 W' → World.cell? W' ⟨xb, 0, none⟩ = some (.int .u8 p) := fun W' h => Cells.at_ (Cells.below h hB) 0
  have qhB_1 : ∀ W', Below w1.heap.size w1 W' → World.cell? W' ⟨xb, 1, none⟩ = some (.int .u32 si) := fun W' h => Cells.at_ (Cells.below h hB) 1
  have qhB_3 : ∀ W', Below w1.heap.size w1 W' → World.cell? W' ⟨xb, 3, none⟩ = some (.int .u32 di) := fun W' h => Cells.at_ (Cells.below h hB) 3
  have qd_0 : ∀ W', Below w1.heap.size w1 W' → World.cell? W' ⟨w.heap.size, 0, none⟩ = some (.int .i64 x.k) := fun W' h => Cells.at_ (Cells.below h d) 0
  have qd_1 : ∀ W', Below w1.heap.size w1 W' → World.cell? W' ⟨w.heap.size, 1, none⟩ = some (.int .u8 x.p) := fun W' h => Cells.at_ (Cells.below h d) 1
  have qd_2 : ∀ W', Below w1.heap.size w1 W' → World.cell? W' ⟨w.heap.size, 2, none⟩ = some (.int .u32 x.sa) := fun W' h => Cells.at_ (Cells.below h d) 2
  have qd_3 : ∀ W', Below w1.heap.size w1 W' → World.cell? W' ⟨w.heap.size, 3, none⟩ = some (.int .i64 x.sb) := fun W' h => Cells.at_ (Cells.below h d) 3
  have qd_4 : ∀ W', Below w1.heap.size w1 W' → World.cell? W' ⟨w.heap.size, 4, none⟩ = some (.int .u32 x.da) := fun W' h => Cells.at_ (Cells.below h d) 4
  have qd_5 : ∀ W', Below w1.heap.size w1 W' → World.cell? W' ⟨w.heap.size, 5, none⟩ = some (.int .i64 x.db) := fun W' h => Cells.at_ (Cells.below h d) 5
  have qd_6 : ∀ W', Below w1.heap.size w1 W' → World.cell? W' ⟨w.heap.size, 6, none⟩ = some (.int .u32 x.e) := fun W' h => Cells.at_ (Cells.below h d) 6
  have qd_7 : ∀ W', Below w1.heap.size w1 W' → World.cell? W' ⟨w.heap.size, 7, none⟩ = some (.int .u16 x.f) := fun W' h => Cells.at_ (Cells.below h d) 7
  have qd_8 : ∀ W', Below w1.heap.size w1 W' → World.cell? W' ⟨w.heap.size, 8, none⟩ = some (.int .u16 x.t) := fun W' h => Cells.at_ (Cells.below h d) 8
  have qd_9 : ∀ W', Below w1.heap.size w1 W' → World.cell? W' ⟨w.heap.size, 9, none⟩ = some (.int .u32 x.ia) := fun W' h => Cells.at_ (Cells.below h d) 9
  have qd_10 : ∀ W', Below w1.heap.size w1 W' → World.cell? W' ⟨w.heap.size, 10, none⟩ = some (.int .u16 x.ip) := fun W' h => Cells.at_ (Cells.below h d) 10
  have bb : Below w1.heap.size w1 w1 := Below.refl _ _
  have L0 := hide l0
  clear l0 d hB
  go_wp2_with (first | (go_at_call 35; (with_reducible refine (C0.out _).mono ?_); rintro e2 w2 ⟨rfl, b2⟩; have b2' := bstep (by assumption : Below w1.heap.size w1 _) b2; clear b2) | (go_at_call 35; (with_reducible refine (C1.out _).mono ?_); rintro e2 w2 ⟨rfl, b2⟩; have b2' := bstep (by assumption : Below w1.heap.size w1 _) b2; clear b2))
  all_goals
    go_ret
    refine ⟨ret_bool ?_, bstep L0.out (by assumption)⟩
    rw [HQ.out]
    clear HQ HB C0 C1 L0 bb qhB_0 qhB_1 qhB_3 qd_0 qd_1 qd_2 qd_3 qd_4 qd_5 qd_6 qd_7 qd_8 qd_9 qd_10
    first | (simp [*]; done) | (simp [*]; rfl) | (simp [*]; omega) | (simp_all; done) | (simp_all; omega)

set_option maxHeartbeats 4000000 in
set_option maxRecDepth 100000 in
theorem t_Outer1 (w : World) (B : Nat) (o ip b a : Int) (v : Value) (x : Rule) (tb ab : Nat) (T T' : TypeId) (h : Tbl w B o ip b v) (ht : Cells w tb #[.pointer (some ⟨B, 0, none⟩)] T) (ha : Cells w ab #[.int .u32 a] T') :
    Calls Try.prog 48 #[.agg x.cells, .pointer (some ⟨tb, 0, none⟩), .pointer (some ⟨ab, 0, none⟩)] w (Ret (.bool (ouP o a x)) w) := by
  have c1 := fun W (h : Below w.heap.size w W) (hw : Tbl w B o ip b v) => t_whole W B o ip b v x (Tbl.below hw h)
  unfold ouP
  generalize wholeR o x = x1 at *
  unfold Rule.cells at *
  have hfd : ∀ w : World, (Instr.field 30 (.agg #[.int .i64 x1.k, .int .u8 x1.p, .int .u32 x1.sa, .int .i64 x1.sb, .int .u32 x1.da, .int .i64 x1.db, .int .u32 x1.e, .int .u16 x1.f, .int .u16 x1.t, .int .u32 x1.ia, .int .u16 x1.ip]) 4).run Try.prog w = .ok (.int .u32 x1.e) w := fun _ => by kernel_rfl
  have C1 := hide c1; have H := hide h; have HT := hide ht; have HA := hide ha
  clear c1 h ht ha
  go_enter Try.func48, Try.ntmps48
  have d := Cells.new w #[.int .i64 x.k, .int .u8 x.p, .int .u32 x.sa, .int .i64 x.sb, .int .u32 x.da, .int .i64 x.db, .int .u32 x.e, .int .u16 x.f, .int .u16 x.t, .int .u32 x.ia, .int .u16 x.ip] 30
  have l0 := fresh_below w (.cells #[.int .i64 x.k, .int .u8 x.p, .int .u32 x.sa, .int .i64 x.sb, .int .u32 x.da, .int .i64 x.db, .int .u32 x.e, .int .u16 x.f, .int .u16 x.t, .int .u32 x.ia, .int .u16 x.ip] 30)
  have L0 := hide l0; have D0 := hide d
  clear l0 d
  go_upto_region 1 with fail
  have l0 := L0.out; have d := D0.out
  clear L0 D0
  generalize (w.alloc (.cells #[.int .i64 x.k, .int .u8 x.p, .int .u32 x.sa, .int .i64 x.sb, .int .u32 x.da, .int .i64 x.db, .int .u32 x.e, .int .u16 x.f, .int .u16 x.t, .int .u32 x.ia, .int .u16 x.ip] 30)) = w1 at *
  have hT := Cells.below l0 HT.out
  have hA := Cells.below l0 HA.out
  have b1 : Below w.heap.size w w1 := l0
  have SK := hide (fun (zX zY : World) (zh : (Below w.heap.size w zX ∧ zX.cell? ⟨tb, 0, none⟩ = some (.pointer (some ⟨B, 0, none⟩)) ∧ zX.cell? ⟨ab, 0, none⟩ = some (.int .u32 a) ∧ zX.cell? ⟨w.heap.size, 0, none⟩ = some (.int .i64 x.k) ∧ zX.cell? ⟨w.heap.size, 1, none⟩ = some (.int .u8 x.p) ∧ zX.cell? ⟨w.heap.size, 2, none⟩ = some (.int .u32 x.sa) ∧ zX.cell? ⟨w.heap.size, 3, none⟩ = some (.int .i64 x.sb) ∧ zX.cell? ⟨w.heap.size, 4, none⟩ = some (.int .u32 x.da) ∧ zX.cell? ⟨w.heap.size, 5, none⟩ = some (.int .i64 x.db) ∧ zX.cell? ⟨w.heap.size, 6, none⟩ = some (.int .u32 x.e) ∧ zX.cell? ⟨w.heap.size, 7, none⟩ = some (.int .u16 x.f) ∧ zX.cell? ⟨w.heap.size, 8, none⟩ = some (.int .u16 x.t) ∧ zX.cell? ⟨w.heap.size, 9, none⟩ = some (.int .u32 x.ia) ∧ zX.cell? ⟨w.heap.size, 10, none⟩ = some (.int .u16 x.ip) ∧ True)) (zb : Below zX.heap.size zX zY) => (show (Below w.heap.size w zY ∧ zY.cell? ⟨tb, 0, none⟩ = some (.pointer (some ⟨B, 0, none⟩)) ∧ zY.cell? ⟨ab, 0, none⟩ = some (.int .u32 a) ∧ zY.cell? ⟨w.heap.size, 0, none⟩ = some (.int .i64 x.k) ∧ zY.cell? ⟨w.heap.size, 1, none⟩ = some (.int .u8 x.p) ∧ zY.cell? ⟨w.heap.size, 2, none⟩ = some (.int .u32 x.sa) ∧ zY.cell? ⟨w.heap.size, 3, none⟩ = some (.int .i64 x.sb) ∧ zY.cell? ⟨w.heap.size, 4, none⟩ = some (.int .u32 x.da) ∧ zY.cell? ⟨w.heap.size, 5, none⟩ = some (.int .i64 x.db) ∧ zY.cell? ⟨w.heap.size, 6, none⟩ = some (.int .u32 x.e) ∧ zY.cell? ⟨w.heap.size, 7, none⟩ = some (.int .u16 x.f) ∧ zY.cell? ⟨w.heap.size, 8, none⟩ = some (.int .u16 x.t) ∧ zY.cell? ⟨w.heap.size, 9, none⟩ = some (.int .u32 x.ia) ∧ zY.cell? ⟨w.heap.size, 10, none⟩ = some (.int .u16 x.ip) ∧ True) from ⟨bstep zh.1 zb, cellAt zb zh.2.1, cellAt zb zh.2.2.1, cellAt zb zh.2.2.2.1, cellAt zb zh.2.2.2.2.1, cellAt zb zh.2.2.2.2.2.1, cellAt zb zh.2.2.2.2.2.2.1, cellAt zb zh.2.2.2.2.2.2.2.1, cellAt zb zh.2.2.2.2.2.2.2.2.1, cellAt zb zh.2.2.2.2.2.2.2.2.2.1, cellAt zb zh.2.2.2.2.2.2.2.2.2.2.1, cellAt zb zh.2.2.2.2.2.2.2.2.2.2.2.1, cellAt zb zh.2.2.2.2.2.2.2.2.2.2.2.2.1, cellAt zb zh.2.2.2.2.2.2.2.2.2.2.2.2.2.1, trivial⟩))
  have FS := hide (fun (zX : World) (zh : (Below w.heap.size w zX ∧ zX.cell? ⟨tb, 0, none⟩ = some (.pointer (some ⟨B, 0, none⟩)) ∧ zX.cell? ⟨ab, 0, none⟩ = some (.int .u32 a) ∧ zX.cell? ⟨w.heap.size, 0, none⟩ = some (.int .i64 x.k) ∧ zX.cell? ⟨w.heap.size, 1, none⟩ = some (.int .u8 x.p) ∧ zX.cell? ⟨w.heap.size, 2, none⟩ = some (.int .u32 x.sa) ∧ zX.cell? ⟨w.heap.size, 3, none⟩ = some (.int .i64 x.sb) ∧ zX.cell? ⟨w.heap.size, 4, none⟩ = some (.int .u32 x.da) ∧ zX.cell? ⟨w.heap.size, 5, none⟩ = some (.int .i64 x.db) ∧ zX.cell? ⟨w.heap.size, 6, none⟩ = some (.int .u32 x.e) ∧ zX.cell? ⟨w.heap.size, 7, none⟩ = some (.int .u16 x.f) ∧ zX.cell? ⟨w.heap.size, 8, none⟩ = some (.int .u16 x.t) ∧ zX.cell? ⟨w.heap.size, 9, none⟩ = some (.int .u32 x.ia) ∧ zX.cell? ⟨w.heap.size, 10, none⟩ = some (.int .u16 x.ip) ∧ True)) => zh.1)
  have GS := hide (fun (zX : World) (zh : (Below w.heap.size w zX ∧ zX.cell? ⟨tb, 0, none⟩ = some (.pointer (some ⟨B, 0, none⟩)) ∧ zX.cell? ⟨ab, 0, none⟩ = some (.int .u32 a) ∧ zX.cell? ⟨w.heap.size, 0, none⟩ = some (.int .i64 x.k) ∧ zX.cell? ⟨w.heap.size, 1, none⟩ = some (.int .u8 x.p) ∧ zX.cell? ⟨w.heap.size, 2, none⟩ = some (.int .u32 x.sa) ∧ zX.cell? ⟨w.heap.size, 3, none⟩ = some (.int .i64 x.sb) ∧ zX.cell? ⟨w.heap.size, 4, none⟩ = some (.int .u32 x.da) ∧ zX.cell? ⟨w.heap.size, 5, none⟩ = some (.int .i64 x.db) ∧ zX.cell? ⟨w.heap.size, 6, none⟩ = some (.int .u32 x.e) ∧ zX.cell? ⟨w.heap.size, 7, none⟩ = some (.int .u16 x.f) ∧ zX.cell? ⟨w.heap.size, 8, none⟩ = some (.int .u16 x.t) ∧ zX.cell? ⟨w.heap.size, 9, none⟩ = some (.int .u32 x.ia) ∧ zX.cell? ⟨w.heap.size, 10, none⟩ = some (.int .u16 x.ip) ∧ True)) => zh)
  have hS0 : (Below w.heap.size w w1 ∧ w1.cell? ⟨tb, 0, none⟩ = some (.pointer (some ⟨B, 0, none⟩)) ∧ w1.cell? ⟨ab, 0, none⟩ = some (.int .u32 a) ∧ w1.cell? ⟨w.heap.size, 0, none⟩ = some (.int .i64 x.k) ∧ w1.cell? ⟨w.heap.size, 1, none⟩ = some (.int .u8 x.p) ∧ w1.cell? ⟨w.heap.size, 2, none⟩ = some (.int .u32 x.sa) ∧ w1.cell? ⟨w.heap.size, 3, none⟩ = some (.int .i64 x.sb) ∧ w1.cell? ⟨w.heap.size, 4, none⟩ = some (.int .u32 x.da) ∧ w1.cell? ⟨w.heap.size, 5, none⟩ = some (.int .i64 x.db) ∧ w1.cell? ⟨w.heap.size, 6, none⟩ = some (.int .u32 x.e) ∧ w1.cell? ⟨w.heap.size, 7, none⟩ = some (.int .u16 x.f) ∧ w1.cell? ⟨w.heap.size, 8, none⟩ = some (.int .u16 x.t) ∧ w1.cell? ⟨w.heap.size, 9, none⟩ = some (.int .u32 x.ia) ∧ w1.cell? ⟨w.heap.size, 10, none⟩ = some (.int .u16 x.ip) ∧ True) := ⟨(by (repeat' (first | with_reducible exact b1 | with_reducible exact Below.refl _ _ | with_reducible refine Below.setCell ?_ (by first | exact Nat.le_refl _ | (dsimp only; omega)) _ | with_reducible refine bstep ?_ (fresh_below _ _) | with_reducible refine Below.drew ?_))), hT.at_ 0, hA.at_ 0, d.at_ 0, d.at_ 1, d.at_ 2, d.at_ 3, d.at_ 4, d.at_ 5, d.at_ 6, d.at_ 7, d.at_ 8, d.at_ 9, d.at_ 10, trivial⟩
  go_region_held3 (fun w' => (Below w.heap.size w w' ∧ w'.cell? ⟨tb, 0, none⟩ = some (.pointer (some ⟨B, 0, none⟩)) ∧ w'.cell? ⟨ab, 0, none⟩ = some (.int .u32 a) ∧ w'.cell? ⟨w.heap.size, 0, none⟩ = some (.int .i64 x.k) ∧ w'.cell? ⟨w.heap.size, 1, none⟩ = some (.int .u8 x.p) ∧ w'.cell? ⟨w.heap.size, 2, none⟩ = some (.int .u32 x.sa) ∧ w'.cell? ⟨w.heap.size, 3, none⟩ = some (.int .i64 x.sb) ∧ w'.cell? ⟨w.heap.size, 4, none⟩ = some (.int .u32 x.da) ∧ w'.cell? ⟨w.heap.size, 5, none⟩ = some (.int .i64 x.db) ∧ w'.cell? ⟨w.heap.size, 6, none⟩ = some (.int .u32 x.e) ∧ w'.cell? ⟨w.heap.size, 7, none⟩ = some (.int .u16 x.f) ∧ w'.cell? ⟨w.heap.size, 8, none⟩ = some (.int .u16 x.t) ∧ w'.cell? ⟨w.heap.size, 9, none⟩ = some (.int .u32 x.ia) ∧ w'.cell? ⟨w.heap.size, 10, none⟩ = some (.int .u16 x.ip) ∧ True)) (first | assumption | exact SK.out _ _ hS0 (Below.refl _ _).drew | exact SK.out _ _ hS0 (fresh_below _ _).drew | exact SK.out _ _ (by assumption) (fresh_below _ _) | (refine SK.out _ _ ?_ (by assumption); assumption))
    (first | (go_at_call 45; (with_reducible refine (C1.out _ (FS.out _ (by assumption)) H.out).mono ?_); rintro e wq ⟨rfl, bq⟩))
  all_goals
    go_wp2_with fail
    go_ret
    exact ⟨by first | rfl | simp [Bool.beq_eq_decide_eq], (by first | exact FS.out _ (by assumption) | exact bstep (FS.out _ (by assumption)) (fresh_below _ _) | exact bstep (bstep (FS.out _ (by assumption)) (fresh_below _ _)) (fresh_below _ _))⟩
end Go.Proofs.Ytbboajhdijabbaa
