/- Several texts of this claim, one behind the other. -/
import Derived.Test.YtilfcikhipadpaaDoorM10

section
/- rules: the closures of Static, Own, Source, Outer. -/
set_option linter.unusedVariables false
set_option linter.unusedSimpArgs false
namespace Go.Proofs.YtilfcikhipadpaaDoor
open Go.RowKit Go.Lib
attribute [local go_sem] Oper.semAt_some

def stP (p ei ep : Int) (x : Rule) : Bool := decide (x.k = 3) && decide (x.p = p) && decide (x.e = ei) && decide (x.f = ep)
def owP (p ei ep : Int) (x : Rule) : Bool := decide (x.k = 3) && decide (x.p = p) && (decide (x.ia = ei) && decide (x.ip = ep))
def srcP (p si di : Int) (x : Rule) : Bool := !decide (x.k = 3) && (decide (x.p = 0) || decide (x.p = p)) && hasP x.sa x.sb si && hasP x.da x.db di
def ouP (o a : Int) (x : Rule) : Bool := decide ((wholeR o x).e = a)

set_option maxHeartbeats 4000000 in
set_option maxRecDepth 100000 in
theorem t_Static1 (w : World) (p ei ep : Int) (x : Rule) (pb eb : Nat) (T T' : TypeId) (hp : Cells w pb #[.int .u8 p] T) (he : Cells w eb #[.int .u32 ei, .int .u16 ep] T') :
    Calls Tryd.prog 49 #[.agg x.cells, .pointer (some ⟨pb, 0, none⟩), .pointer (some ⟨eb, 0, none⟩)] w (Ret (.bool (stP p ei ep x)) w) := by
  obtain ⟨q, hq⟩ : ∃ q, q = stP p ei ep x := ⟨_, rfl⟩
  rw [← hq]
  unfold stP at hq
  unfold Rule.cells
  have HQ := hide hq; have HP := hide hp; have HE := hide he
  clear hq hp he
  go_enter Tryd.func49, Tryd.ntmps49
  have d := Cells.new w #[.int .i64 x.k, .int .u8 x.p, .int .u32 x.sa, .int .i64 x.sb, .int .u32 x.da, .int .i64 x.db, .int .u32 x.e, .int .u16 x.f, .int .u16 x.t, .int .u32 x.ia, .int .u16 x.ip] 77
  have l0 := fresh_below w (.cells #[.int .i64 x.k, .int .u8 x.p, .int .u32 x.sa, .int .i64 x.sb, .int .u32 x.da, .int .i64 x.db, .int .u32 x.e, .int .u16 x.f, .int .u16 x.t, .int .u32 x.ia, .int .u16 x.ip] 77)
  have L0 := hide l0; have D0 := hide d
  clear l0 d
  go_upto_region 1 with fail
  have l0 := L0.out; have d := D0.out
  clear L0 D0
  generalize (w.alloc (.cells #[.int .i64 x.k, .int .u8 x.p, .int .u32 x.sa, .int .i64 x.sb, .int .u32 x.da, .int .i64 x.db, .int .u32 x.e, .int .u16 x.f, .int .u16 x.t, .int .u32 x.ia, .int .u16 x.ip] 77)) = w1 at *
  have hP := Cells.below l0 HP.out; have hE := Cells.below l0 HE.out
  have xhP_0 : w1.cell? ⟨pb, 0, none⟩ = some (.int .u8 p) := hP.at_ 0
  have xhE_0 : w1.cell? ⟨eb, 0, none⟩ = some (.int .u32 ei) := hE.at_ 0
  have xhE_1 : w1.cell? ⟨eb, 1, none⟩ = some (.int .u16 ep) := hE.at_ 1
  have xd_0 : w1.cell? ⟨w.heap.size, 0, none⟩ = some (.int .i64 x.k) := d.at_ 0
  have xd_1 : w1.cell? ⟨w.heap.size, 1, none⟩ = some (.int .u8 x.p) := d.at_ 1
  have xd_2 : w1.cell? ⟨w.heap.size, 2, none⟩ = some (.int .u32 x.sa) := d.at_ 2
  have xd_3 : w1.cell? ⟨w.heap.size, 3, none⟩ = some (.int .i64 x.sb) := d.at_ 3
  have xd_4 : w1.cell? ⟨w.heap.size, 4, none⟩ = some (.int .u32 x.da) := d.at_ 4
  have xd_5 : w1.cell? ⟨w.heap.size, 5, none⟩ = some (.int .i64 x.db) := d.at_ 5
  have xd_6 : w1.cell? ⟨w.heap.size, 6, none⟩ = some (.int .u32 x.e) := d.at_ 6
  have xd_7 : w1.cell? ⟨w.heap.size, 7, none⟩ = some (.int .u16 x.f) := d.at_ 7
  have xd_8 : w1.cell? ⟨w.heap.size, 8, none⟩ = some (.int .u16 x.t) := d.at_ 8
  have xd_9 : w1.cell? ⟨w.heap.size, 9, none⟩ = some (.int .u32 x.ia) := d.at_ 9
  have xd_10 : w1.cell? ⟨w.heap.size, 10, none⟩ = some (.int .u16 x.ip) := d.at_ 10
  have L0 := hide l0
  clear l0 d hP hE
  go_wp2_with fail
  all_goals
    go_ret
    refine ⟨ret_bool ?_, L0.out⟩
    rw [HQ.out]
    clear HQ HP HE
    first | (simp [*]; done) | (simp [*]; rfl) | (simp [*]; omega) | (simp_all; done)

set_option maxHeartbeats 4000000 in
set_option maxRecDepth 100000 in
theorem t_Own1 (w : World) (p ei ep : Int) (x : Rule) (pb eb : Nat) (T T' : TypeId) (hp : Cells w pb #[.int .u8 p] T) (he : Cells w eb #[.int .u32 ei, .int .u16 ep] T') :
    Calls Tryd.prog 55 #[.agg x.cells, .pointer (some ⟨pb, 0, none⟩), .pointer (some ⟨eb, 0, none⟩)] w (Ret (.bool (owP p ei ep x)) w) := by
  obtain ⟨q, hq⟩ : ∃ q, q = owP p ei ep x := ⟨_, rfl⟩
  rw [← hq]
  unfold owP at hq
  unfold Rule.cells
  have HQ := hide hq; have HP := hide hp; have HE := hide he
  clear hq hp he
  go_enter Tryd.func55, Tryd.ntmps55
  have d := Cells.new w #[.int .i64 x.k, .int .u8 x.p, .int .u32 x.sa, .int .i64 x.sb, .int .u32 x.da, .int .i64 x.db, .int .u32 x.e, .int .u16 x.f, .int .u16 x.t, .int .u32 x.ia, .int .u16 x.ip] 77
  have l0 := fresh_below w (.cells #[.int .i64 x.k, .int .u8 x.p, .int .u32 x.sa, .int .i64 x.sb, .int .u32 x.da, .int .i64 x.db, .int .u32 x.e, .int .u16 x.f, .int .u16 x.t, .int .u32 x.ia, .int .u16 x.ip] 77)
  have L0 := hide l0; have D0 := hide d
  clear l0 d
  go_upto_region 1 with fail
  have l0 := L0.out; have d := D0.out
  clear L0 D0
  generalize (w.alloc (.cells #[.int .i64 x.k, .int .u8 x.p, .int .u32 x.sa, .int .i64 x.sb, .int .u32 x.da, .int .i64 x.db, .int .u32 x.e, .int .u16 x.f, .int .u16 x.t, .int .u32 x.ia, .int .u16 x.ip] 77)) = w1 at *
  have hP := Cells.below l0 HP.out; have hE := Cells.below l0 HE.out
  have xhP_0 : w1.cell? ⟨pb, 0, none⟩ = some (.int .u8 p) := hP.at_ 0
  have xhE_0 : w1.cell? ⟨eb, 0, none⟩ = some (.int .u32 ei) := hE.at_ 0
  have xhE_1 : w1.cell? ⟨eb, 1, none⟩ = some (.int .u16 ep) := hE.at_ 1
  have xd_0 : w1.cell? ⟨w.heap.size, 0, none⟩ = some (.int .i64 x.k) := d.at_ 0
  have xd_1 : w1.cell? ⟨w.heap.size, 1, none⟩ = some (.int .u8 x.p) := d.at_ 1
  have xd_2 : w1.cell? ⟨w.heap.size, 2, none⟩ = some (.int .u32 x.sa) := d.at_ 2
  have xd_3 : w1.cell? ⟨w.heap.size, 3, none⟩ = some (.int .i64 x.sb) := d.at_ 3
  have xd_4 : w1.cell? ⟨w.heap.size, 4, none⟩ = some (.int .u32 x.da) := d.at_ 4
  have xd_5 : w1.cell? ⟨w.heap.size, 5, none⟩ = some (.int .i64 x.db) := d.at_ 5
  have xd_6 : w1.cell? ⟨w.heap.size, 6, none⟩ = some (.int .u32 x.e) := d.at_ 6
  have xd_7 : w1.cell? ⟨w.heap.size, 7, none⟩ = some (.int .u16 x.f) := d.at_ 7
  have xd_8 : w1.cell? ⟨w.heap.size, 8, none⟩ = some (.int .u16 x.t) := d.at_ 8
  have xd_9 : w1.cell? ⟨w.heap.size, 9, none⟩ = some (.int .u32 x.ia) := d.at_ 9
  have xd_10 : w1.cell? ⟨w.heap.size, 10, none⟩ = some (.int .u16 x.ip) := d.at_ 10
  have L0 := hide l0
  clear l0 d hP hE
  go_wp2_with fail
  all_goals
    go_ret
    refine ⟨ret_bool ?_, L0.out⟩
    rw [HQ.out]
    clear HQ HP HE
    first | (simp [*]; done) | (simp [*]; rfl) | (simp [*]; omega) | (simp_all; done)

set_option maxHeartbeats 4000000 in
set_option maxRecDepth 100000 in
theorem t_Source1 (w : World) (p si sp di dp : Int) (x : Rule) (xb : Nat) (T : TypeId) (hb : Cells w xb #[.int .u8 p, .int .u32 si, .int .u16 sp, .int .u32 di, .int .u16 dp] T) (hx : x.Ok) (hs : 0 ≤ si ∧ si ≤ 4294967295) (hd : 0 ≤ di ∧ di ≤ 4294967295) :
    Calls Tryd.prog 56 #[.agg x.cells, .pointer (some ⟨xb, 0, none⟩)] w (Ret (.bool (srcP p si di x)) w) := by
  have c0 := fun W => addrs_Has x.sa x.sb si W hx.2.1 hs
  have c1 := fun W => addrs_Has x.da x.db di W hx.2.2.1 hd
  obtain ⟨q, hq⟩ : ∃ q, q = srcP p si di x := ⟨_, rfl⟩
  rw [← hq]
  unfold srcP at hq
  generalize hasP x.sa x.sb si = q1 at *
  generalize hasP x.da x.db di = q2 at *
  unfold Rule.cells
  have HQ := hide hq; have HB := hide hb; have C0 := hide c0; have C1 := hide c1
  clear hq hb hx hs hd c0 c1
  go_enter Tryd.func56, Tryd.ntmps56
  have d := Cells.new w #[.int .i64 x.k, .int .u8 x.p, .int .u32 x.sa, .int .i64 x.sb, .int .u32 x.da, .int .i64 x.db, .int .u32 x.e, .int .u16 x.f, .int .u16 x.t, .int .u32 x.ia, .int .u16 x.ip] 77
  have l0 := fresh_below w (.cells #[.int .i64 x.k, .int .u8 x.p, .int .u32 x.sa, .int .i64 x.sb, .int .u32 x.da, .int .i64 x.db, .int .u32 x.e, .int .u16 x.f, .int .u16 x.t, .int .u32 x.ia, .int .u16 x.ip] 77)
  have L0 := hide l0; have D0 := hide d
  clear l0 d
  go_upto_region 1 with fail
  have l0 := L0.out; have d := D0.out
  clear L0 D0
  generalize (w.alloc (.cells #[.int .i64 x.k, .int .u8 x.p, .int .u32 x.sa, .int .i64 x.sb, .int .u32 x.da, .int .i64 x.db, .int .u32 x.e, .int .u16 x.f, .int .u16 x.t, .int .u32 x.ia, .int .u16 x.ip] 77)) = w1 at *
  have hB := Cells.below l0 HB.out
  have qhB_0 : ∀ W', Below w1.heap.size w1 W' → World.cell? W' ⟨xb, 0, none⟩ = some (.int .u8 p) := fun W' h => Cells.at_ (Cells.below h hB) 0
  have qhB_1 : ∀ W', Below w1.heap.size w1 W' → World.cell? W' ⟨xb, 1, none⟩ = some (.int .u32 si) := fun W' h => Cells.at_ (Cells.below h hB) 1
  have qhB_3 : ∀ W', Below w1.heap.size w1 W' → World.cell? W' ⟨xb, 3, none⟩ = some (.int .u32 di) := fun W' h => Cells.at_ (Cells.below h hB) 3
  have qd_0 : ∀ W', Below w1.heap.size w1 W' → World.cell? W' ⟨w.heap.size, 0, none⟩ = some (.int .i64 x.k) := fun W' h => Cells.at_ (Cells.below h d) 0
  have qd_1 : ∀ W', Below w1.heap.size w1 W' → World.cell? W' ⟨w.heap.size, 1, none⟩ = some (.int .u8 x.p) := fun W' h => Cells.at_ (Cells.below h d) 1
  have qd_2 : ∀ W', Below w1.heap.size w1 W' → World.cell? W' ⟨w.heap.size, 2, none⟩ = some (.int .u32 x.sa) := fun W' h => Cells.at_ (Cells.below h d) 2
  have qd_3 : ∀ W', Below w1.heap.size w1 W' → World.cell? W' ⟨w.heap.size, 3, none⟩ = some (.int .i64 x.sb) := fun W' h => Cells.at_ (Cells.below h d) 3
  have qd_4 : ∀ W', Below w1.heap.size w1 W' → World.cell? W' ⟨w.heap.size, 4, none⟩ = some (.int .u32 x.da) := fun W' h => Cells.at_ (Cells.below h d) 4
  have qd_5 : ∀ W', Below w1.heap.size w1 W' → World.cell? W' ⟨w.heap.size, 5, none⟩ = some (.int .i64 x.db) := fun W' h => Cells.at_ (Cells.below h d) 5
  have qd_6 : ∀ W', Below w1.heap.size w1 W' → World.cell? W' ⟨w.heap.size, 6, none⟩ = some (.int .u32 x.e) := fun W' h => Cells.at_ (Cells.below h d) 6
  have qd_7 : ∀ W', Below w1.heap.size w1 W' → World.cell? W' ⟨w.heap.size, 7, none⟩ = some (.int .u16 x.f) := fun W' h => Cells.at_ (Cells.below h d) 7
  have qd_8 : ∀ W', Below w1.heap.size w1 W' → World.cell? W' ⟨w.heap.size, 8, none⟩ = some (.int .u16 x.t) := fun W' h => Cells.at_ (Cells.below h d) 8
  have qd_9 : ∀ W', Below w1.heap.size w1 W' → World.cell? W' ⟨w.heap.size, 9, none⟩ = some (.int .u32 x.ia) := fun W' h => Cells.at_ (Cells.below h d) 9
  have qd_10 : ∀ W', Below w1.heap.size w1 W' → World.cell? W' ⟨w.heap.size, 10, none⟩ = some (.int .u16 x.ip) := fun W' h => Cells.at_ (Cells.below h d) 10
  have bb : Below w1.heap.size w1 w1 := Below.refl _ _
  have L0 := hide l0
  clear l0 d hB
  go_wp2_with (first | (go_at_call 29; (with_reducible refine (C0.out _).mono ?_); rintro e2 w2 ⟨rfl, b2⟩; have b2' := bstep (by assumption : Below w1.heap.size w1 _) b2; clear b2) | (go_at_call 29; (with_reducible refine (C1.out _).mono ?_); rintro e2 w2 ⟨rfl, b2⟩; have b2' := bstep (by assumption : Below w1.heap.size w1 _) b2; clear b2))
  all_goals
    go_ret
    refine ⟨ret_bool ?_, bstep L0.out (by assumption)⟩
    rw [HQ.out]
    clear HQ HB C0 C1 L0 bb qhB_0 qhB_1 qhB_3 qd_0 qd_1 qd_2 qd_3 qd_4 qd_5 qd_6 qd_7 qd_8 qd_9 qd_10
    first | (simp [*]; done) | (simp [*]; rfl) | (simp [*]; omega) | (simp_all; done) | (simp_all; omega)

set_option maxHeartbeats 4000000 in
set_option maxRecDepth 100000 in
theorem t_Outer1 (w : World) (B : Nat) (o ip b a : Int) (v : Value) (x : Rule) (tb ab : Nat) (T T' : TypeId) (h : Tbl w B o ip b v) (ht : Cells w tb #[.pointer (some ⟨B, 0, none⟩)] T) (ha : Cells w ab #[.int .u32 a] T') :
    Calls Tryd.prog 50 #[.agg x.cells, .pointer (some ⟨tb, 0, none⟩), .pointer (some ⟨ab, 0, none⟩)] w (Ret (.bool (ouP o a x)) w) := by
  have c1 := fun W (h : Below w.heap.size w W) (hw : Tbl w B o ip b v) => t_whole W B o ip b v x (Tbl.below hw h)
  unfold ouP
  generalize wholeR o x = x1 at *
  unfold Rule.cells at *
  have hfd : ∀ w : World, (Instr.field 77 (.agg #[.int .i64 x1.k, .int .u8 x1.p, .int .u32 x1.sa, .int .i64 x1.sb, .int .u32 x1.da, .int .i64 x1.db, .int .u32 x1.e, .int .u16 x1.f, .int .u16 x1.t, .int .u32 x1.ia, .int .u16 x1.ip]) 4).run Tryd.prog w = .ok (.int .u32 x1.e) w := fun _ => by kernel_rfl
  have C1 := hide c1; have H := hide h; have HT := hide ht; have HA := hide ha
  clear c1 h ht ha
  go_enter Tryd.func50, Tryd.ntmps50
  have d := Cells.new w #[.int .i64 x.k, .int .u8 x.p, .int .u32 x.sa, .int .i64 x.sb, .int .u32 x.da, .int .i64 x.db, .int .u32 x.e, .int .u16 x.f, .int .u16 x.t, .int .u32 x.ia, .int .u16 x.ip] 77
  have l0 := fresh_below w (.cells #[.int .i64 x.k, .int .u8 x.p, .int .u32 x.sa, .int .i64 x.sb, .int .u32 x.da, .int .i64 x.db, .int .u32 x.e, .int .u16 x.f, .int .u16 x.t, .int .u32 x.ia, .int .u16 x.ip] 77)
  have L0 := hide l0; have D0 := hide d
  clear l0 d
  go_upto_region 1 with fail
  have l0 := L0.out; have d := D0.out
  clear L0 D0
  generalize (w.alloc (.cells #[.int .i64 x.k, .int .u8 x.p, .int .u32 x.sa, .int .i64 x.sb, .int .u32 x.da, .int .i64 x.db, .int .u32 x.e, .int .u16 x.f, .int .u16 x.t, .int .u32 x.ia, .int .u16 x.ip] 77)) = w1 at *
  have hT := Cells.below l0 HT.out
  have hA := Cells.below l0 HA.out
  have b1 : Below w.heap.size w w1 := l0
  have SK := hide (fun (zX zY : World) (zh : (Below w.heap.size w zX ∧ zX.cell? ⟨tb, 0, none⟩ = some (.pointer (some ⟨B, 0, none⟩)) ∧ zX.cell? ⟨ab, 0, none⟩ = some (.int .u32 a) ∧ zX.cell? ⟨w.heap.size, 0, none⟩ = some (.int .i64 x.k) ∧ zX.cell? ⟨w.heap.size, 1, none⟩ = some (.int .u8 x.p) ∧ zX.cell? ⟨w.heap.size, 2, none⟩ = some (.int .u32 x.sa) ∧ zX.cell? ⟨w.heap.size, 3, none⟩ = some (.int .i64 x.sb) ∧ zX.cell? ⟨w.heap.size, 4, none⟩ = some (.int .u32 x.da) ∧ zX.cell? ⟨w.heap.size, 5, none⟩ = some (.int .i64 x.db) ∧ zX.cell? ⟨w.heap.size, 6, none⟩ = some (.int .u32 x.e) ∧ zX.cell? ⟨w.heap.size, 7, none⟩ = some (.int .u16 x.f) ∧ zX.cell? ⟨w.heap.size, 8, none⟩ = some (.int .u16 x.t) ∧ zX.cell? ⟨w.heap.size, 9, none⟩ = some (.int .u32 x.ia) ∧ zX.cell? ⟨w.heap.size, 10, none⟩ = some (.int .u16 x.ip) ∧ True)) (zb : Below zX.heap.size zX zY) => (show (Below w.heap.size w zY ∧ zY.cell? ⟨tb, 0, none⟩ = some (.pointer (some ⟨B, 0, none⟩)) ∧ zY.cell? ⟨ab, 0, none⟩ = some (.int .u32 a) ∧ zY.cell? ⟨w.heap.size, 0, none⟩ = some (.int .i64 x.k) ∧ zY.cell? ⟨w.heap.size, 1, none⟩ = some (.int .u8 x.p) ∧ zY.cell? ⟨w.heap.size, 2, none⟩ = some (.int .u32 x.sa) ∧ zY.cell? ⟨w.heap.size, 3, none⟩ = some (.int .i64 x.sb) ∧ zY.cell? ⟨w.heap.size, 4, none⟩ = some (.int .u32 x.da) ∧ zY.cell? ⟨w.heap.size, 5, none⟩ = some (.int .i64 x.db) ∧ zY.cell? ⟨w.heap.size, 6, none⟩ = some (.int .u32 x.e) ∧ zY.cell? ⟨w.heap.size, 7, none⟩ = some (.int .u16 x.f) ∧ zY.cell? ⟨w.heap.size, 8, none⟩ = some (.int .u16 x.t) ∧ zY.cell? ⟨w.heap.size, 9, none⟩ = some (.int .u32 x.ia) ∧ zY.cell? ⟨w.heap.size, 10, none⟩ = some (.int .u16 x.ip) ∧ True) from ⟨bstep zh.1 zb, cellAt zb zh.2.1, cellAt zb zh.2.2.1, cellAt zb zh.2.2.2.1, cellAt zb zh.2.2.2.2.1, cellAt zb zh.2.2.2.2.2.1, cellAt zb zh.2.2.2.2.2.2.1, cellAt zb zh.2.2.2.2.2.2.2.1, cellAt zb zh.2.2.2.2.2.2.2.2.1, cellAt zb zh.2.2.2.2.2.2.2.2.2.1, cellAt zb zh.2.2.2.2.2.2.2.2.2.2.1, cellAt zb zh.2.2.2.2.2.2.2.2.2.2.2.1, cellAt zb zh.2.2.2.2.2.2.2.2.2.2.2.2.1, cellAt zb zh.2.2.2.2.2.2.2.2.2.2.2.2.2.1, trivial⟩))
  have FS := hide (fun (zX : World) (zh : (Below w.heap.size w zX ∧ zX.cell? ⟨tb, 0, none⟩ = some (.pointer (some ⟨B, 0, none⟩)) ∧ zX.cell? ⟨ab, 0, none⟩ = some (.int .u32 a) ∧ zX.cell? ⟨w.heap.size, 0, none⟩ = some (.int .i64 x.k) ∧ zX.cell? ⟨w.heap.size, 1, none⟩ = some (.int .u8 x.p) ∧ zX.cell? ⟨w.heap.size, 2, none⟩ = some (.int .u32 x.sa) ∧ zX.cell? ⟨w.heap.size, 3, none⟩ = some (.int .i64 x.sb) ∧ zX.cell? ⟨w.heap.size, 4, none⟩ = some (.int .u32 x.da) ∧ zX.cell? ⟨w.heap.size, 5, none⟩ = some (.int .i64 x.db) ∧ zX.cell? ⟨w.heap.size, 6, none⟩ = some (.int .u32 x.e) ∧ zX.cell? ⟨w.heap.size, 7, none⟩ = some (.int .u16 x.f) ∧ zX.cell? ⟨w.heap.size, 8, none⟩ = some (.int .u16 x.t) ∧ zX.cell? ⟨w.heap.size, 9, none⟩ = some (.int .u32 x.ia) ∧ zX.cell? ⟨w.heap.size, 10, none⟩ = some (.int .u16 x.ip) ∧ True)) => zh.1)
  have GS := hide (fun (zX : World) (zh : (Below w.heap.size w zX ∧ zX.cell? ⟨tb, 0, none⟩ = some (.pointer (some ⟨B, 0, none⟩)) ∧ zX.cell? ⟨ab, 0, none⟩ = some (.int .u32 a) ∧ zX.cell? ⟨w.heap.size, 0, none⟩ = some (.int .i64 x.k) ∧ zX.cell? ⟨w.heap.size, 1, none⟩ = some (.int .u8 x.p) ∧ zX.cell? ⟨w.heap.size, 2, none⟩ = some (.int .u32 x.sa) ∧ zX.cell? ⟨w.heap.size, 3, none⟩ = some (.int .i64 x.sb) ∧ zX.cell? ⟨w.heap.size, 4, none⟩ = some (.int .u32 x.da) ∧ zX.cell? ⟨w.heap.size, 5, none⟩ = some (.int .i64 x.db) ∧ zX.cell? ⟨w.heap.size, 6, none⟩ = some (.int .u32 x.e) ∧ zX.cell? ⟨w.heap.size, 7, none⟩ = some (.int .u16 x.f) ∧ zX.cell? ⟨w.heap.size, 8, none⟩ = some (.int .u16 x.t) ∧ zX.cell? ⟨w.heap.size, 9, none⟩ = some (.int .u32 x.ia) ∧ zX.cell? ⟨w.heap.size, 10, none⟩ = some (.int .u16 x.ip) ∧ True)) => zh)
  have hS0 : (Below w.heap.size w w1 ∧ w1.cell? ⟨tb, 0, none⟩ = some (.pointer (some ⟨B, 0, none⟩)) ∧ w1.cell? ⟨ab, 0, none⟩ = some (.int .u32 a) ∧ w1.cell? ⟨w.heap.size, 0, none⟩ = some (.int .i64 x.k) ∧ w1.cell? ⟨w.heap.size, 1, none⟩ = some (.int .u8 x.p) ∧ w1.cell? ⟨w.heap.size, 2, none⟩ = some (.int .u32 x.sa) ∧ w1.cell? ⟨w.heap.size, 3, none⟩ = some (.int .i64 x.sb) ∧ w1.cell? ⟨w.heap.size, 4, none⟩ = some (.int .u32 x.da) ∧ w1.cell? ⟨w.heap.size, 5, none⟩ = some (.int .i64 x.db) ∧ w1.cell? ⟨w.heap.size, 6, none⟩ = some (.int .u32 x.e) ∧ w1.cell? ⟨w.heap.size, 7, none⟩ = some (.int .u16 x.f) ∧ w1.cell? ⟨w.heap.size, 8, none⟩ = some (.int .u16 x.t) ∧ w1.cell? ⟨w.heap.size, 9, none⟩ = some (.int .u32 x.ia) ∧ w1.cell? ⟨w.heap.size, 10, none⟩ = some (.int .u16 x.ip) ∧ True) := ⟨(by (repeat' (first | with_reducible exact b1 | with_reducible exact Below.refl _ _ | with_reducible refine Below.setCell ?_ (by first | exact Nat.le_refl _ | (dsimp only; omega)) _ | with_reducible refine bstep ?_ (fresh_below _ _) | with_reducible refine Below.drew ?_))), hT.at_ 0, hA.at_ 0, d.at_ 0, d.at_ 1, d.at_ 2, d.at_ 3, d.at_ 4, d.at_ 5, d.at_ 6, d.at_ 7, d.at_ 8, d.at_ 9, d.at_ 10, trivial⟩
  go_region_held3 (fun w' => (Below w.heap.size w w' ∧ w'.cell? ⟨tb, 0, none⟩ = some (.pointer (some ⟨B, 0, none⟩)) ∧ w'.cell? ⟨ab, 0, none⟩ = some (.int .u32 a) ∧ w'.cell? ⟨w.heap.size, 0, none⟩ = some (.int .i64 x.k) ∧ w'.cell? ⟨w.heap.size, 1, none⟩ = some (.int .u8 x.p) ∧ w'.cell? ⟨w.heap.size, 2, none⟩ = some (.int .u32 x.sa) ∧ w'.cell? ⟨w.heap.size, 3, none⟩ = some (.int .i64 x.sb) ∧ w'.cell? ⟨w.heap.size, 4, none⟩ = some (.int .u32 x.da) ∧ w'.cell? ⟨w.heap.size, 5, none⟩ = some (.int .i64 x.db) ∧ w'.cell? ⟨w.heap.size, 6, none⟩ = some (.int .u32 x.e) ∧ w'.cell? ⟨w.heap.size, 7, none⟩ = some (.int .u16 x.f) ∧ w'.cell? ⟨w.heap.size, 8, none⟩ = some (.int .u16 x.t) ∧ w'.cell? ⟨w.heap.size, 9, none⟩ = some (.int .u32 x.ia) ∧ w'.cell? ⟨w.heap.size, 10, none⟩ = some (.int .u16 x.ip) ∧ True)) (first | assumption | exact SK.out _ _ hS0 (Below.refl _ _).drew | exact SK.out _ _ hS0 (fresh_below _ _).drew | exact SK.out _ _ (by assumption) (fresh_below _ _) | (refine SK.out _ _ ?_ (by assumption); assumption))
    (first | (go_at_call 34; (with_reducible refine (C1.out _ (FS.out _ (by assumption)) H.out).mono ?_); rintro e wq ⟨rfl, bq⟩))
  all_goals
    go_wp2_with fail
    go_ret
    exact ⟨by first | rfl | simp [Bool.beq_eq_decide_eq], (by first | exact FS.out _ (by assumption) | exact bstep (FS.out _ (by assumption)) (fresh_below _ _) | exact bstep (bstep (FS.out _ (by assumption)) (fresh_below _ _)) (fresh_below _ _))⟩
end Go.Proofs.YtilfcikhipadpaaDoor
end

section
/- rules: first. -/
set_option linter.unusedVariables false
set_option linter.unusedSimpArgs false
namespace Go.Proofs.YtilfcikhipadpaaDoor
open Go.RowKit Go.Lib
attribute [local go_sem] Oper.semAt_some

def zeroR : Rule := ⟨0, 0, 0, 0, 0, 0, 0, 0, 0, 0, 0⟩
/-- the first rule that fits, with its outer address -/
def firstR (o : Int) (p : Rule → Bool) (l : List Rule) : Rule := match l.find? p with | some r => wholeR o r | none => zeroR

theorem find_idx (p : Rule → Bool) : ∀ l : List Rule, l.any p = true → ∃ h : l.findIdx p < l.length, l.find? p = some l[l.findIdx p]
  | [], h => by simp at h
  | r :: l, h => by
    by_cases e : p r = true
    · refine ⟨by rw [List.findIdx_cons, e]; simp, ?_⟩
      simp [List.find?_cons, List.findIdx_cons, e]
    · simp only [Bool.not_eq_true] at e
      obtain ⟨h1, h2⟩ := find_idx p l (by simpa [e] using h)
      refine ⟨by rw [List.findIdx_cons, e]; simpa using h1, ?_⟩
      simp [List.find?_cons, List.findIdx_cons, e, h2]

set_option maxHeartbeats 4000000 in
set_option maxRecDepth 100000 in
theorem t_first_no (w : World) (B : Nat) (o ip b : Int) (v : Value) (F : Value) (h : Tbl w B o ip b v) (c1 : ∀ W, Below w.heap.size w W → Calls Tryd.prog 45 #[v, F] W (Ret (.int .i64 (-1)) W)) :
    Calls Tryd.prog 48 #[.pointer (some ⟨B, 0, none⟩), F] w (Ret (.tuple #[.agg #[.int .i64 0, .int .u8 0, .int .u32 0, .int .i64 0, .int .u32 0, .int .i64 0, .int .u32 0, .int .u16 0, .int .u16 0, .int .u32 0, .int .u16 0], .bool false]) w) := by
  have c0 : ∀ W, Below w.heap.size w W → Calls Tryd.prog 42 #[.pointer (some ⟨B, 0, none⟩)] W (Ret (.bool false) W) := fun W hW => t_none W B o ip b v (Tbl.below h hW)
  have C0 := hide c0; have C1 := hide c1; have HT := hide h
  clear c0 c1 h
  go_enter Tryd.func48, Tryd.ntmps48
  have d := Cells.new w #[.int .i64 0, .int .u8 0, .int .u32 0, .int .i64 0, .int .u32 0, .int .i64 0, .int .u32 0, .int .u16 0, .int .u16 0, .int .u32 0, .int .u16 0] 77
  have l0 := fresh_below w (.cells #[.int .i64 0, .int .u8 0, .int .u32 0, .int .i64 0, .int .u32 0, .int .i64 0, .int .u32 0, .int .u16 0, .int .u16 0, .int .u32 0, .int .u16 0] 77)
  have L0 := hide l0; have D0 := hide d
  clear l0 d
  go_upto_region 1 with fail
  have l0 := L0.out; have d := D0.out
  clear L0 D0
  generalize (w.alloc (.cells #[.int .i64 0, .int .u8 0, .int .u32 0, .int .i64 0, .int .u32 0, .int .i64 0, .int .u32 0, .int .u16 0, .int .u16 0, .int .u32 0, .int .u16 0] 77)) = w1 at *
  have hB := Cells.below l0 HT.out
  have qhB_0 : ∀ W', Below w1.heap.size w1 W' → World.cell? W' ⟨B, 0, none⟩ = some (.bool true) := fun W' h => Cells.at_ (Cells.below h hB) 0
  have qhB_1 : ∀ W', Below w1.heap.size w1 W' → World.cell? W' ⟨B, 1, none⟩ = some (.int .u32 o) := fun W' h => Cells.at_ (Cells.below h hB) 1
  have qhB_2 : ∀ W', Below w1.heap.size w1 W' → World.cell? W' ⟨B, 2, none⟩ = some (.int .u32 ip) := fun W' h => Cells.at_ (Cells.below h hB) 2
  have qhB_3 : ∀ W', Below w1.heap.size w1 W' → World.cell? W' ⟨B, 3, none⟩ = some (.int .i64 b) := fun W' h => Cells.at_ (Cells.below h hB) 3
  have qhB_4 : ∀ W', Below w1.heap.size w1 W' → World.cell? W' ⟨B, 4, none⟩ = some (v) := fun W' h => Cells.at_ (Cells.below h hB) 4
  have qd_0 : ∀ W', Below w1.heap.size w1 W' → World.cell? W' ⟨w.heap.size, 0, none⟩ = some (.int .i64 0) := fun W' h => Cells.at_ (Cells.below h d) 0
  have qd_1 : ∀ W', Below w1.heap.size w1 W' → World.cell? W' ⟨w.heap.size, 1, none⟩ = some (.int .u8 0) := fun W' h => Cells.at_ (Cells.below h d) 1
  have qd_2 : ∀ W', Below w1.heap.size w1 W' → World.cell? W' ⟨w.heap.size, 2, none⟩ = some (.int .u32 0) := fun W' h => Cells.at_ (Cells.below h d) 2
  have qd_3 : ∀ W', Below w1.heap.size w1 W' → World.cell? W' ⟨w.heap.size, 3, none⟩ = some (.int .i64 0) := fun W' h => Cells.at_ (Cells.below h d) 3
  have qd_4 : ∀ W', Below w1.heap.size w1 W' → World.cell? W' ⟨w.heap.size, 4, none⟩ = some (.int .u32 0) := fun W' h => Cells.at_ (Cells.below h d) 4
  have qd_5 : ∀ W', Below w1.heap.size w1 W' → World.cell? W' ⟨w.heap.size, 5, none⟩ = some (.int .i64 0) := fun W' h => Cells.at_ (Cells.below h d) 5
  have qd_6 : ∀ W', Below w1.heap.size w1 W' → World.cell? W' ⟨w.heap.size, 6, none⟩ = some (.int .u32 0) := fun W' h => Cells.at_ (Cells.below h d) 6
  have qd_7 : ∀ W', Below w1.heap.size w1 W' → World.cell? W' ⟨w.heap.size, 7, none⟩ = some (.int .u16 0) := fun W' h => Cells.at_ (Cells.below h d) 7
  have qd_8 : ∀ W', Below w1.heap.size w1 W' → World.cell? W' ⟨w.heap.size, 8, none⟩ = some (.int .u16 0) := fun W' h => Cells.at_ (Cells.below h d) 8
  have qd_9 : ∀ W', Below w1.heap.size w1 W' → World.cell? W' ⟨w.heap.size, 9, none⟩ = some (.int .u32 0) := fun W' h => Cells.at_ (Cells.below h d) 9
  have qd_10 : ∀ W', Below w1.heap.size w1 W' → World.cell? W' ⟨w.heap.size, 10, none⟩ = some (.int .u16 0) := fun W' h => Cells.at_ (Cells.below h d) 10
  have fz : ∀ W' i, Below w1.heap.size w1 W' → World.frozen? W' ⟨w.heap.size, i, none⟩ = false := fun W' i h => Cells.free (Cells.below h d) i
  have bb : Below w1.heap.size w1 w1 := Below.refl _ _
  have L0 := hide l0; have D0 := hide d
  clear l0 d hB
  go_wp2_with (first | (go_at_call 42; (with_reducible refine (C0.out _ (bstep L0.out (by assumption))).mono ?_); rintro e2 w2 ⟨rfl, b2⟩; have b2' := bstep (by assumption : Below w1.heap.size w1 _) b2; clear b2) | (go_at_call 45; (with_reducible refine (C1.out _ (bstep L0.out (by assumption))).mono ?_); rintro e2 w2 ⟨rfl, b2⟩; have b2' := bstep (by assumption : Below w1.heap.size w1 _) b2; clear b2))
  have d2 := Cells.below b2' D0.out; have l2 := bstep L0.out b2'
  clear b2' qhB_0 qhB_1 qhB_2 qhB_3 qhB_4 qd_0 qd_1 qd_2 qd_3 qd_4 qd_5 qd_6 qd_7 qd_8 qd_9 qd_10 fz bb L0 D0 C0 C1 HT
  have r5 := (Cells.put11 d2 (.int .i64 0) (.int .u8 0) (.int .u32 0) (.int .i64 0) (.int .u32 0) (.int .i64 0) (.int .u32 0) (.int .u16 0) (.int .u16 0) (.int .u32 0) (.int .u16 0))
  have b5 := (Below.put11 l2 (b := w.heap.size) (by first | exact Nat.le_refl _ | omega) (.int .i64 0) (.int .u8 0) (.int .u32 0) (.int .i64 0) (.int .u32 0) (.int .i64 0) (.int .u32 0) (.int .u16 0) (.int .u16 0) (.int .u32 0) (.int .u16 0))
  have HR5 := hide r5; have HB5 := hide b5
  clear r5 b5 d2
  generalize (((((((((((w2.setCell ⟨w.heap.size, 0, none⟩ (.int .i64 0)).setCell ⟨w.heap.size, 1, none⟩ (.int .u8 0)).setCell ⟨w.heap.size, 2, none⟩ (.int .u32 0)).setCell ⟨w.heap.size, 3, none⟩ (.int .i64 0)).setCell ⟨w.heap.size, 4, none⟩ (.int .u32 0)).setCell ⟨w.heap.size, 5, none⟩ (.int .i64 0)).setCell ⟨w.heap.size, 6, none⟩ (.int .u32 0)).setCell ⟨w.heap.size, 7, none⟩ (.int .u16 0)).setCell ⟨w.heap.size, 8, none⟩ (.int .u16 0)).setCell ⟨w.heap.size, 9, none⟩ (.int .u32 0)).setCell ⟨w.heap.size, 10, none⟩ (.int .u16 0)) = W5 at *
  have r5 := HR5.out; have b5 := HB5.out
  clear HR5 HB5
  have xr5_0 : W5.cell? ⟨w.heap.size, 0, none⟩ = some (.int .i64 0) := r5.at_ 0
  have xr5_1 : W5.cell? ⟨w.heap.size, 1, none⟩ = some (.int .u8 0) := r5.at_ 1
  have xr5_2 : W5.cell? ⟨w.heap.size, 2, none⟩ = some (.int .u32 0) := r5.at_ 2
  have xr5_3 : W5.cell? ⟨w.heap.size, 3, none⟩ = some (.int .i64 0) := r5.at_ 3
  have xr5_4 : W5.cell? ⟨w.heap.size, 4, none⟩ = some (.int .u32 0) := r5.at_ 4
  have xr5_5 : W5.cell? ⟨w.heap.size, 5, none⟩ = some (.int .i64 0) := r5.at_ 5
  have xr5_6 : W5.cell? ⟨w.heap.size, 6, none⟩ = some (.int .u32 0) := r5.at_ 6
  have xr5_7 : W5.cell? ⟨w.heap.size, 7, none⟩ = some (.int .u16 0) := r5.at_ 7
  have xr5_8 : W5.cell? ⟨w.heap.size, 8, none⟩ = some (.int .u16 0) := r5.at_ 8
  have xr5_9 : W5.cell? ⟨w.heap.size, 9, none⟩ = some (.int .u32 0) := r5.at_ 9
  have xr5_10 : W5.cell? ⟨w.heap.size, 10, none⟩ = some (.int .u16 0) := r5.at_ 10
  (try simp only [Exit.inBlock, Exit.then]); refine bodyPost_ret (by simp [results, Tryd.results48, go_sem, *]; try rfl) rfl ?_
  exact ⟨rfl, b5⟩

set_option maxHeartbeats 4000000 in
set_option maxRecDepth 100000 in
theorem t_first_yes (w : World) (B : Nat) (o ip b : Int) (g n c k : Nat) (r : Rule) (F : Value) (h : Tbl w B o ip b (.slice (some ⟨g, 0, none⟩) n c)) (hk : k < n) (hn : n ≤ 1000) (hg : g < w.heap.size) (hr : ∀ i u, i < 11 → r.cells.toList[i]? = some u → w.cell? ⟨g, k * 11 + i, none⟩ = some u) (c1 : ∀ W, Below w.heap.size w W → Calls Tryd.prog 45 #[.slice (some ⟨g, 0, none⟩) n c, F] W (Ret (.int .i64 k) W)) :
    Calls Tryd.prog 48 #[.pointer (some ⟨B, 0, none⟩), F] w (Ret (.tuple #[.agg (wholeR o r).cells, .bool true]) w) := by
  have c0 : ∀ W, Below w.heap.size w W → Calls Tryd.prog 42 #[.pointer (some ⟨B, 0, none⟩)] W (Ret (.bool false) W) := fun W hW => t_none W B o ip b _ (Tbl.below h hW)
  have c2 : ∀ W, Below w.heap.size w W → _ := fun W hW => t_whole W B o ip b _ r (Tbl.below h hW)
  have y0 : w.cell? ⟨g, k * 11, none⟩ = some (.int .i64 r.k) := hr 0 _ (by omega) rfl
  have y1 : w.cell? ⟨g, k * 11 + 1, none⟩ = some (.int .u8 r.p) := hr 1 _ (by omega) rfl
  have y2 : w.cell? ⟨g, k * 11 + 2, none⟩ = some (.int .u32 r.sa) := hr 2 _ (by omega) rfl
  have y3 : w.cell? ⟨g, k * 11 + 3, none⟩ = some (.int .i64 r.sb) := hr 3 _ (by omega) rfl
  have y4 : w.cell? ⟨g, k * 11 + 4, none⟩ = some (.int .u32 r.da) := hr 4 _ (by omega) rfl
  have y5 : w.cell? ⟨g, k * 11 + 5, none⟩ = some (.int .i64 r.db) := hr 5 _ (by omega) rfl
  have y6 : w.cell? ⟨g, k * 11 + 6, none⟩ = some (.int .u32 r.e) := hr 6 _ (by omega) rfl
  have y7 : w.cell? ⟨g, k * 11 + 7, none⟩ = some (.int .u16 r.f) := hr 7 _ (by omega) rfl
  have y8 : w.cell? ⟨g, k * 11 + 8, none⟩ = some (.int .u16 r.t) := hr 8 _ (by omega) rfl
  have y9 : w.cell? ⟨g, k * 11 + 9, none⟩ = some (.int .u32 r.ia) := hr 9 _ (by omega) rfl
  have y10 : w.cell? ⟨g, k * 11 + 10, none⟩ = some (.int .u16 r.ip) := hr 10 _ (by omega) rfl
  generalize wholeR o r = r1 at *
  unfold Rule.cells at *
  have Y := hide (fun (W : World) (hW : Below w.heap.size w W) (j : Nat) => (hW.cell (p := ⟨g, j, none⟩) hg : W.cell? ⟨g, j, none⟩ = w.cell? ⟨g, j, none⟩))
  have C0 := hide c0; have C1 := hide c1; have C2 := hide c2; have HT := hide h
  clear c0 c1 c2 h hr hg
  have hk' : (k : Int) < (n : Int) := by omega
  go_enter Tryd.func48, Tryd.ntmps48
  have d := Cells.new w #[.int .i64 0, .int .u8 0, .int .u32 0, .int .i64 0, .int .u32 0, .int .i64 0, .int .u32 0, .int .u16 0, .int .u16 0, .int .u32 0, .int .u16 0] 77
  have l0 := fresh_below w (.cells #[.int .i64 0, .int .u8 0, .int .u32 0, .int .i64 0, .int .u32 0, .int .i64 0, .int .u32 0, .int .u16 0, .int .u16 0, .int .u32 0, .int .u16 0] 77)
  have L0 := hide l0; have D0 := hide d
  clear l0 d
  go_upto_region 1 with fail
  have l0 := L0.out; have d := D0.out
  clear L0 D0
  generalize (w.alloc (.cells #[.int .i64 0, .int .u8 0, .int .u32 0, .int .i64 0, .int .u32 0, .int .i64 0, .int .u32 0, .int .u16 0, .int .u16 0, .int .u32 0, .int .u16 0] 77)) = w1 at *
  have hB := Cells.below l0 HT.out
  have qhB_0 : ∀ W', Below w1.heap.size w1 W' → World.cell? W' ⟨B, 0, none⟩ = some (.bool true) := fun W' h => Cells.at_ (Cells.below h hB) 0
  have qhB_1 : ∀ W', Below w1.heap.size w1 W' → World.cell? W' ⟨B, 1, none⟩ = some (.int .u32 o) := fun W' h => Cells.at_ (Cells.below h hB) 1
  have qhB_2 : ∀ W', Below w1.heap.size w1 W' → World.cell? W' ⟨B, 2, none⟩ = some (.int .u32 ip) := fun W' h => Cells.at_ (Cells.below h hB) 2
  have qhB_3 : ∀ W', Below w1.heap.size w1 W' → World.cell? W' ⟨B, 3, none⟩ = some (.int .i64 b) := fun W' h => Cells.at_ (Cells.below h hB) 3
  have qhB_4 : ∀ W', Below w1.heap.size w1 W' → World.cell? W' ⟨B, 4, none⟩ = some (.slice (some ⟨g, 0, none⟩) n c) := fun W' h => Cells.at_ (Cells.below h hB) 4
  have qd_0 : ∀ W', Below w1.heap.size w1 W' → World.cell? W' ⟨w.heap.size, 0, none⟩ = some (.int .i64 0) := fun W' h => Cells.at_ (Cells.below h d) 0
  have qd_1 : ∀ W', Below w1.heap.size w1 W' → World.cell? W' ⟨w.heap.size, 1, none⟩ = some (.int .u8 0) := fun W' h => Cells.at_ (Cells.below h d) 1
  have qd_2 : ∀ W', Below w1.heap.size w1 W' → World.cell? W' ⟨w.heap.size, 2, none⟩ = some (.int .u32 0) := fun W' h => Cells.at_ (Cells.below h d) 2
  have qd_3 : ∀ W', Below w1.heap.size w1 W' → World.cell? W' ⟨w.heap.size, 3, none⟩ = some (.int .i64 0) := fun W' h => Cells.at_ (Cells.below h d) 3
  have qd_4 : ∀ W', Below w1.heap.size w1 W' → World.cell? W' ⟨w.heap.size, 4, none⟩ = some (.int .u32 0) := fun W' h => Cells.at_ (Cells.below h d) 4
  have qd_5 : ∀ W', Below w1.heap.size w1 W' → World.cell? W' ⟨w.heap.size, 5, none⟩ = some (.int .i64 0) := fun W' h => Cells.at_ (Cells.below h d) 5
  have qd_6 : ∀ W', Below w1.heap.size w1 W' → World.cell? W' ⟨w.heap.size, 6, none⟩ = some (.int .u32 0) := fun W' h => Cells.at_ (Cells.below h d) 6
  have qd_7 : ∀ W', Below w1.heap.size w1 W' → World.cell? W' ⟨w.heap.size, 7, none⟩ = some (.int .u16 0) := fun W' h => Cells.at_ (Cells.below h d) 7
  have qd_8 : ∀ W', Below w1.heap.size w1 W' → World.cell? W' ⟨w.heap.size, 8, none⟩ = some (.int .u16 0) := fun W' h => Cells.at_ (Cells.below h d) 8
  have qd_9 : ∀ W', Below w1.heap.size w1 W' → World.cell? W' ⟨w.heap.size, 9, none⟩ = some (.int .u32 0) := fun W' h => Cells.at_ (Cells.below h d) 9
  have qd_10 : ∀ W', Below w1.heap.size w1 W' → World.cell? W' ⟨w.heap.size, 10, none⟩ = some (.int .u16 0) := fun W' h => Cells.at_ (Cells.below h d) 10
  have z0 : ∀ W', Below w1.heap.size w1 W' → World.cell? W' ⟨g, k * 11, none⟩ = some (.int .i64 r.k) := fun W' h => (Y.out W' (bstep l0 h) _).trans y0
  have z1 : ∀ W', Below w1.heap.size w1 W' → World.cell? W' ⟨g, k * 11 + 1, none⟩ = some (.int .u8 r.p) := fun W' h => (Y.out W' (bstep l0 h) _).trans y1
  have z2 : ∀ W', Below w1.heap.size w1 W' → World.cell? W' ⟨g, k * 11 + 2, none⟩ = some (.int .u32 r.sa) := fun W' h => (Y.out W' (bstep l0 h) _).trans y2
  have z3 : ∀ W', Below w1.heap.size w1 W' → World.cell? W' ⟨g, k * 11 + 3, none⟩ = some (.int .i64 r.sb) := fun W' h => (Y.out W' (bstep l0 h) _).trans y3
  have z4 : ∀ W', Below w1.heap.size w1 W' → World.cell? W' ⟨g, k * 11 + 4, none⟩ = some (.int .u32 r.da) := fun W' h => (Y.out W' (bstep l0 h) _).trans y4
  have z5 : ∀ W', Below w1.heap.size w1 W' → World.cell? W' ⟨g, k * 11 + 5, none⟩ = some (.int .i64 r.db) := fun W' h => (Y.out W' (bstep l0 h) _).trans y5
  have z6 : ∀ W', Below w1.heap.size w1 W' → World.cell? W' ⟨g, k * 11 + 6, none⟩ = some (.int .u32 r.e) := fun W' h => (Y.out W' (bstep l0 h) _).trans y6
  have z7 : ∀ W', Below w1.heap.size w1 W' → World.cell? W' ⟨g, k * 11 + 7, none⟩ = some (.int .u16 r.f) := fun W' h => (Y.out W' (bstep l0 h) _).trans y7
  have z8 : ∀ W', Below w1.heap.size w1 W' → World.cell? W' ⟨g, k * 11 + 8, none⟩ = some (.int .u16 r.t) := fun W' h => (Y.out W' (bstep l0 h) _).trans y8
  have z9 : ∀ W', Below w1.heap.size w1 W' → World.cell? W' ⟨g, k * 11 + 9, none⟩ = some (.int .u32 r.ia) := fun W' h => (Y.out W' (bstep l0 h) _).trans y9
  have z10 : ∀ W', Below w1.heap.size w1 W' → World.cell? W' ⟨g, k * 11 + 10, none⟩ = some (.int .u16 r.ip) := fun W' h => (Y.out W' (bstep l0 h) _).trans y10
  have fz : ∀ W' i, Below w1.heap.size w1 W' → World.frozen? W' ⟨w.heap.size, i, none⟩ = false := fun W' i h => Cells.free (Cells.below h d) i
  have bb : Below w1.heap.size w1 w1 := Below.refl _ _
  have L0 := hide l0; have D0 := hide d
  clear l0 d hB y0 y1 y2 y3 y4 y5 y6 y7 y8 y9 y10
  go_wp2_with (first | (go_at_call 42; (with_reducible refine (C0.out _ (bstep L0.out (by assumption))).mono ?_); rintro e2 w2 ⟨rfl, b2⟩; have b2' := bstep (by assumption : Below w1.heap.size w1 _) b2; clear b2) | (go_at_call 45; (with_reducible refine (C1.out _ (bstep L0.out (by assumption))).mono ?_); rintro e2 w2 ⟨rfl, b2⟩; have b2' := bstep (by assumption : Below w1.heap.size w1 _) b2; clear b2) | (go_at_call 34; (with_reducible refine (C2.out _ (bstep L0.out (by assumption))).mono ?_); rintro e2 w2 ⟨rfl, b2⟩; have b2' := bstep (by assumption : Below w1.heap.size w1 _) b2; clear b2))
  have d2 := Cells.below b2' D0.out; have l2 := bstep L0.out b2'
  clear b2' z0 z1 z2 z3 z4 z5 z6 z7 z8 z9 z10 Y C2 qhB_0 qhB_1 qhB_2 qhB_3 qhB_4 qd_0 qd_1 qd_2 qd_3 qd_4 qd_5 qd_6 qd_7 qd_8 qd_9 qd_10 fz bb L0 D0 C0 C1 HT
  have r5 := (Cells.put11 d2 (.int .i64 r1.k) (.int .u8 r1.p) (.int .u32 r1.sa) (.int .i64 r1.sb) (.int .u32 r1.da) (.int .i64 r1.db) (.int .u32 r1.e) (.int .u16 r1.f) (.int .u16 r1.t) (.int .u32 r1.ia) (.int .u16 r1.ip))
  have b5 := (Below.put11 l2 (b := w.heap.size) (by first | exact Nat.le_refl _ | omega) (.int .i64 r1.k) (.int .u8 r1.p) (.int .u32 r1.sa) (.int .i64 r1.sb) (.int .u32 r1.da) (.int .i64 r1.db) (.int .u32 r1.e) (.int .u16 r1.f) (.int .u16 r1.t) (.int .u32 r1.ia) (.int .u16 r1.ip))
  have HR5 := hide r5; have HB5 := hide b5
  clear r5 b5 d2
  generalize (((((((((((w2.setCell ⟨w.heap.size, 0, none⟩ (.int .i64 r1.k)).setCell ⟨w.heap.size, 1, none⟩ (.int .u8 r1.p)).setCell ⟨w.heap.size, 2, none⟩ (.int .u32 r1.sa)).setCell ⟨w.heap.size, 3, none⟩ (.int .i64 r1.sb)).setCell ⟨w.heap.size, 4, none⟩ (.int .u32 r1.da)).setCell ⟨w.heap.size, 5, none⟩ (.int .i64 r1.db)).setCell ⟨w.heap.size, 6, none⟩ (.int .u32 r1.e)).setCell ⟨w.heap.size, 7, none⟩ (.int .u16 r1.f)).setCell ⟨w.heap.size, 8, none⟩ (.int .u16 r1.t)).setCell ⟨w.heap.size, 9, none⟩ (.int .u32 r1.ia)).setCell ⟨w.heap.size, 10, none⟩ (.int .u16 r1.ip)) = W5 at *
  have r5 := HR5.out; have b5 := HB5.out
  clear HR5 HB5
  have xr5_0 : W5.cell? ⟨w.heap.size, 0, none⟩ = some (.int .i64 r1.k) := r5.at_ 0
  have xr5_1 : W5.cell? ⟨w.heap.size, 1, none⟩ = some (.int .u8 r1.p) := r5.at_ 1
  have xr5_2 : W5.cell? ⟨w.heap.size, 2, none⟩ = some (.int .u32 r1.sa) := r5.at_ 2
  have xr5_3 : W5.cell? ⟨w.heap.size, 3, none⟩ = some (.int .i64 r1.sb) := r5.at_ 3
  have xr5_4 : W5.cell? ⟨w.heap.size, 4, none⟩ = some (.int .u32 r1.da) := r5.at_ 4
  have xr5_5 : W5.cell? ⟨w.heap.size, 5, none⟩ = some (.int .i64 r1.db) := r5.at_ 5
  have xr5_6 : W5.cell? ⟨w.heap.size, 6, none⟩ = some (.int .u32 r1.e) := r5.at_ 6
  have xr5_7 : W5.cell? ⟨w.heap.size, 7, none⟩ = some (.int .u16 r1.f) := r5.at_ 7
  have xr5_8 : W5.cell? ⟨w.heap.size, 8, none⟩ = some (.int .u16 r1.t) := r5.at_ 8
  have xr5_9 : W5.cell? ⟨w.heap.size, 9, none⟩ = some (.int .u32 r1.ia) := r5.at_ 9
  have xr5_10 : W5.cell? ⟨w.heap.size, 10, none⟩ = some (.int .u16 r1.ip) := r5.at_ 10
  (try simp only [Exit.inBlock, Exit.then]); refine bodyPost_ret (by simp [results, Tryd.results48, go_sem, *]; try rfl) rfl ?_
  exact ⟨rfl, b5⟩

theorem t_first (w : World) (B : Nat) (o ip b : Int) (v : Value) (l : List Rule) (h : TS w B o ip b l v) (hl : l.length ≤ 1000) (p : Rule → Bool) (g : Nat) (lb : Array Value) (eg : ∀ args w, (callFunc g args).run Tryd.prog w = .ok (.enter g args) w)
    (hp : ∀ W r, r ∈ l → Below w.heap.size w W → Calls Tryd.prog g (#[.agg r.cells] ++ lb) W (Ret (.bool (p r)) W)) :
    Calls Tryd.prog 48 #[.pointer (some ⟨B, 0, none⟩), .func (.func g) #[] lb] w (Ret (.tuple #[.agg (firstR o p l).cells, .bool (l.any p)]) w) := by
  have c1 : ∀ W, Below w.heap.size w W → Calls Tryd.prog 45 #[v, .func (.func g) #[] lb] W (Ret (.int .i64 (fidx p l)) W) := fun W hW => IndexFuncRR p g lb eg v l W (RR.below h.row hW) (fun W' r hr hb => (hp W' r hr (bstep hW hb)).mono fun e w2 k => ⟨k.1, bstep hb k.2⟩) (by omega)
  unfold fidx at c1
  unfold firstR
  by_cases ha : l.any p = true
  · simp only [ha, if_true] at c1
    obtain ⟨h1, h2⟩ := find_idx p l ha
    rw [h2, ha]
    obtain ⟨g', c, rfl, hg, _, _, hc⟩ := RR.cell h.row (by rintro rfl; simp at h1)
    exact t_first_yes w B o ip b g' l.length c (l.findIdx p) l[l.findIdx p] _ h.tbl h1 hl hg (fun i u hi hu => hc _ _ (by rw [cellsOf_at h1 hi]; exact hu)) c1
  · simp only [ha, if_false] at c1
    have e : l.find? p = none := by
      rw [List.find?_eq_none]
      intro x hx hpx
      exact ha (List.any_eq_true.2 ⟨x, hx, hpx⟩)
    rw [e]
    simp only [Bool.not_eq_true] at ha
    rw [ha]
    exact t_first_no w B o ip b v _ h.tbl (by simpa using c1)
end Go.Proofs.YtilfcikhipadpaaDoor
end
