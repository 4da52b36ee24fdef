/- rules: the document's Clash (porterref11). -/
import Derived.Test.YtbboajhdijabbaaRdoc4
import Derived.Test.YtbboajhdijabbaaClash
set_option linter.unusedVariables false
set_option linter.unusedSimpArgs false
namespace Go.Proofs.Ytbboajhdijabbaa
open Go.RowKit Go.Lib
attribute [local go_sem] Oper.semAt_some

set_option maxHeartbeats 8000000 in
set_option maxRecDepth 100000 in
theorem d_Clash_33 (w : World) (B : Nat) (o ip b' : Int) (v : Value) (a b : Rule) (h : Doc w B o ip b' v) (q1 : (a.k == 3) = true) (q2 : (b.k == 3) = true) :
    Calls Try.prog 47 #[.pointer (some ⟨B, 0, none⟩), .agg #[.int .i64 a.k, .int .u8 a.p, .int .u32 a.sa, .int .i64 a.sb, .int .u32 a.da, .int .i64 a.db, .int .u32 a.e, .int .u16 a.f, .int .u16 a.t, .int .u32 a.ia, .int .u16 a.ip], .agg #[.int .i64 b.k, .int .u8 b.p, .int .u32 b.sa, .int .i64 b.sb, .int .u32 b.da, .int .i64 b.db, .int .u32 b.e, .int .u16 b.f, .int .u16 b.t, .int .u32 b.ia, .int .u16 b.ip]] w (Ret (.bool (dc33 a b)) w) := by
  obtain ⟨vv, hvv⟩ : ∃ vv, vv = dc33 a b := ⟨_, rfl⟩
  rw [← hvv]
  unfold dc33 at hvv
  have HV := hide hvv; have H := hide h
  clear hvv h
  go_enter Try.func47, Try.ntmps47
  have d0 := Cells.new w #[.int .i64 a.k, .int .u8 a.p, .int .u32 a.sa, .int .i64 a.sb, .int .u32 a.da, .int .i64 a.db, .int .u32 a.e, .int .u16 a.f, .int .u16 a.t, .int .u32 a.ia, .int .u16 a.ip] 30
  replace d0 := Cells.below (fresh_below (w.alloc (.cells #[.int .i64 a.k, .int .u8 a.p, .int .u32 a.sa, .int .i64 a.sb, .int .u32 a.da, .int .i64 a.db, .int .u32 a.e, .int .u16 a.f, .int .u16 a.t, .int .u32 a.ia, .int .u16 a.ip] 30)) (.cells #[.int .i64 b.k, .int .u8 b.p, .int .u32 b.sa, .int .i64 b.sb, .int .u32 b.da, .int .i64 b.db, .int .u32 b.e, .int .u16 b.f, .int .u16 b.t, .int .u32 b.ia, .int .u16 b.ip] 30)) d0
  have d1 := Cells.new (w.alloc (.cells #[.int .i64 a.k, .int .u8 a.p, .int .u32 a.sa, .int .i64 a.sb, .int .u32 a.da, .int .i64 a.db, .int .u32 a.e, .int .u16 a.f, .int .u16 a.t, .int .u32 a.ia, .int .u16 a.ip] 30)) #[.int .i64 b.k, .int .u8 b.p, .int .u32 b.sa, .int .i64 b.sb, .int .u32 b.da, .int .i64 b.db, .int .u32 b.e, .int .u16 b.f, .int .u16 b.t, .int .u32 b.ia, .int .u16 b.ip] 30
  have l0 : Below w.heap.size w ((w.alloc (.cells #[.int .i64 a.k, .int .u8 a.p, .int .u32 a.sa, .int .i64 a.sb, .int .u32 a.da, .int .i64 a.db, .int .u32 a.e, .int .u16 a.f, .int .u16 a.t, .int .u32 a.ia, .int .u16 a.ip] 30)).alloc (.cells #[.int .i64 b.k, .int .u8 b.p, .int .u32 b.sa, .int .i64 b.sb, .int .u32 b.da, .int .i64 b.db, .int .u32 b.e, .int .u16 b.f, .int .u16 b.t, .int .u32 b.ia, .int .u16 b.ip] 30)) := bstep (fresh_below _ _) (fresh_below _ _)
  rw [World.size_alloc] at d1
  have L0 := hide l0; have D0 := hide d0; have D1 := hide d1
  clear l0 d0 d1
  go_upto_region 1 with fail
  have l0 := L0.out; have d0 := D0.out; have d1 := D1.out
  clear L0 D0 D1
  generalize ((w.alloc (.cells #[.int .i64 a.k, .int .u8 a.p, .int .u32 a.sa, .int .i64 a.sb, .int .u32 a.da, .int .i64 a.db, .int .u32 a.e, .int .u16 a.f, .int .u16 a.t, .int .u32 a.ia, .int .u16 a.ip] 30)).alloc (.cells #[.int .i64 b.k, .int .u8 b.p, .int .u32 b.sa, .int .i64 b.sb, .int .u32 b.da, .int .i64 b.db, .int .u32 b.e, .int .u16 b.f, .int .u16 b.t, .int .u32 b.ia, .int .u16 b.ip] 30)) = w1 at *
  have xd0_0 : w1.cell? ⟨w.heap.size, 0, none⟩ = some (.int .i64 a.k) := d0.at_ 0
  have xd0_1 : w1.cell? ⟨w.heap.size, 1, none⟩ = some (.int .u8 a.p) := d0.at_ 1
  have xd0_2 : w1.cell? ⟨w.heap.size, 2, none⟩ = some (.int .u32 a.sa) := d0.at_ 2
  have xd0_3 : w1.cell? ⟨w.heap.size, 3, none⟩ = some (.int .i64 a.sb) := d0.at_ 3
  have xd0_4 : w1.cell? ⟨w.heap.size, 4, none⟩ = some (.int .u32 a.da) := d0.at_ 4
  have xd0_5 : w1.cell? ⟨w.heap.size, 5, none⟩ = some (.int .i64 a.db) := d0.at_ 5
  have xd0_6 : w1.cell? ⟨w.heap.size, 6, none⟩ = some (.int .u32 a.e) := d0.at_ 6
  have xd0_7 : w1.cell? ⟨w.heap.size, 7, none⟩ = some (.int .u16 a.f) := d0.at_ 7
  have xd0_8 : w1.cell? ⟨w.heap.size, 8, none⟩ = some (.int .u16 a.t) := d0.at_ 8
  have xd0_9 : w1.cell? ⟨w.heap.size, 9, none⟩ = some (.int .u32 a.ia) := d0.at_ 9
  have xd0_10 : w1.cell? ⟨w.heap.size, 10, none⟩ = some (.int .u16 a.ip) := d0.at_ 10
  have xd1_0 : w1.cell? ⟨w.heap.size + 1, 0, none⟩ = some (.int .i64 b.k) := d1.at_ 0
  have xd1_1 : w1.cell? ⟨w.heap.size + 1, 1, none⟩ = some (.int .u8 b.p) := d1.at_ 1
  have xd1_2 : w1.cell? ⟨w.heap.size + 1, 2, none⟩ = some (.int .u32 b.sa) := d1.at_ 2
  have xd1_3 : w1.cell? ⟨w.heap.size + 1, 3, none⟩ = some (.int .i64 b.sb) := d1.at_ 3
  have xd1_4 : w1.cell? ⟨w.heap.size + 1, 4, none⟩ = some (.int .u32 b.da) := d1.at_ 4
  have xd1_5 : w1.cell? ⟨w.heap.size + 1, 5, none⟩ = some (.int .i64 b.db) := d1.at_ 5
  have xd1_6 : w1.cell? ⟨w.heap.size + 1, 6, none⟩ = some (.int .u32 b.e) := d1.at_ 6
  have xd1_7 : w1.cell? ⟨w.heap.size + 1, 7, none⟩ = some (.int .u16 b.f) := d1.at_ 7
  have xd1_8 : w1.cell? ⟨w.heap.size + 1, 8, none⟩ = some (.int .u16 b.t) := d1.at_ 8
  have xd1_9 : w1.cell? ⟨w.heap.size + 1, 9, none⟩ = some (.int .u32 b.ia) := d1.at_ 9
  have xd1_10 : w1.cell? ⟨w.heap.size + 1, 10, none⟩ = some (.int .u16 b.ip) := d1.at_ 10
  have L0 := hide l0
  clear d0 d1 l0
  go_wp2_with fail
  all_goals
    go_ret
    refine ⟨ret_bool ?_, L0.out⟩
    rw [HV.out]
    clear HV L0 H
    clear xd0_0 xd0_1 xd0_2 xd0_3 xd0_4 xd0_5 xd0_6 xd0_7 xd0_8 xd0_9 xd0_10 xd1_0 xd1_1 xd1_2 xd1_3 xd1_4 xd1_5 xd1_6 xd1_7 xd1_8 xd1_9 xd1_10 q1 q2
    first | (simp [*]; done) | (simp [*]; rfl) | (simp [*]; omega) | (simp_all; done) | (simp_all; omega)

set_option maxHeartbeats 8000000 in
set_option maxRecDepth 100000 in
theorem d_Clash_00 (w : World) (B : Nat) (o ip b' : Int) (v : Value) (a b : Rule) (h : Doc w B o ip b' v) (q1 : (a.k == 3) = false) (q1' : (a.k != 3) = true) (q2 : (b.k == 3) = false) :
    Calls Try.prog 47 #[.pointer (some ⟨B, 0, none⟩), .agg #[.int .i64 a.k, .int .u8 a.p, .int .u32 a.sa, .int .i64 a.sb, .int .u32 a.da, .int .i64 a.db, .int .u32 a.e, .int .u16 a.f, .int .u16 a.t, .int .u32 a.ia, .int .u16 a.ip], .agg #[.int .i64 b.k, .int .u8 b.p, .int .u32 b.sa, .int .i64 b.sb, .int .u32 b.da, .int .i64 b.db, .int .u32 b.e, .int .u16 b.f, .int .u16 b.t, .int .u32 b.ia, .int .u16 b.ip]] w (Ret (.bool (false)) w) := by
  have H := hide h
  clear h
  go_enter Try.func47, Try.ntmps47
  have d0 := Cells.new w #[.int .i64 a.k, .int .u8 a.p, .int .u32 a.sa, .int .i64 a.sb, .int .u32 a.da, .int .i64 a.db, .int .u32 a.e, .int .u16 a.f, .int .u16 a.t, .int .u32 a.ia, .int .u16 a.ip] 30
  replace d0 := Cells.below (fresh_below (w.alloc (.cells #[.int .i64 a.k, .int .u8 a.p, .int .u32 a.sa, .int .i64 a.sb, .int .u32 a.da, .int .i64 a.db, .int .u32 a.e, .int .u16 a.f, .int .u16 a.t, .int .u32 a.ia, .int .u16 a.ip] 30)) (.cells #[.int .i64 b.k, .int .u8 b.p, .int .u32 b.sa, .int .i64 b.sb, .int .u32 b.da, .int .i64 b.db, .int .u32 b.e, .int .u16 b.f, .int .u16 b.t, .int .u32 b.ia, .int .u16 b.ip] 30)) d0
  have d1 := Cells.new (w.alloc (.cells #[.int .i64 a.k, .int .u8 a.p, .int .u32 a.sa, .int .i64 a.sb, .int .u32 a.da, .int .i64 a.db, .int .u32 a.e, .int .u16 a.f, .int .u16 a.t, .int .u32 a.ia, .int .u16 a.ip] 30)) #[.int .i64 b.k, .int .u8 b.p, .int .u32 b.sa, .int .i64 b.sb, .int .u32 b.da, .int .i64 b.db, .int .u32 b.e, .int .u16 b.f, .int .u16 b.t, .int .u32 b.ia, .int .u16 b.ip] 30
  have l0 : Below w.heap.size w ((w.alloc (.cells #[.int .i64 a.k, .int .u8 a.p, .int .u32 a.sa, .int .i64 a.sb, .int .u32 a.da, .int .i64 a.db, .int .u32 a.e, .int .u16 a.f, .int .u16 a.t, .int .u32 a.ia, .int .u16 a.ip] 30)).alloc (.cells #[.int .i64 b.k, .int .u8 b.p, .int .u32 b.sa, .int .i64 b.sb, .int .u32 b.da, .int .i64 b.db, .int .u32 b.e, .int .u16 b.f, .int .u16 b.t, .int .u32 b.ia, .int .u16 b.ip] 30)) := bstep (fresh_below _ _) (fresh_below _ _)
  rw [World.size_alloc] at d1
  have L0 := hide l0; have D0 := hide d0; have D1 := hide d1
  clear l0 d0 d1
  go_upto_region 1 with fail
  have l0 := L0.out; have d0 := D0.out; have d1 := D1.out
  clear L0 D0 D1
  generalize ((w.alloc (.cells #[.int .i64 a.k, .int .u8 a.p, .int .u32 a.sa, .int .i64 a.sb, .int .u32 a.da, .int .i64 a.db, .int .u32 a.e, .int .u16 a.f, .int .u16 a.t, .int .u32 a.ia, .int .u16 a.ip] 30)).alloc (.cells #[.int .i64 b.k, .int .u8 b.p, .int .u32 b.sa, .int .i64 b.sb, .int .u32 b.da, .int .i64 b.db, .int .u32 b.e, .int .u16 b.f, .int .u16 b.t, .int .u32 b.ia, .int .u16 b.ip] 30)) = w1 at *
  have xd0_0 : w1.cell? ⟨w.heap.size, 0, none⟩ = some (.int .i64 a.k) := d0.at_ 0
  have xd0_1 : w1.cell? ⟨w.heap.size, 1, none⟩ = some (.int .u8 a.p) := d0.at_ 1
  have xd0_2 : w1.cell? ⟨w.heap.size, 2, none⟩ = some (.int .u32 a.sa) := d0.at_ 2
  have xd0_3 : w1.cell? ⟨w.heap.size, 3, none⟩ = some (.int .i64 a.sb) := d0.at_ 3
  have xd0_4 : w1.cell? ⟨w.heap.size, 4, none⟩ = some (.int .u32 a.da) := d0.at_ 4
  have xd0_5 : w1.cell? ⟨w.heap.size, 5, none⟩ = some (.int .i64 a.db) := d0.at_ 5
  have xd0_6 : w1.cell? ⟨w.heap.size, 6, none⟩ = some (.int .u32 a.e) := d0.at_ 6
  have xd0_7 : w1.cell? ⟨w.heap.size, 7, none⟩ = some (.int .u16 a.f) := d0.at_ 7
  have xd0_8 : w1.cell? ⟨w.heap.size, 8, none⟩ = some (.int .u16 a.t) := d0.at_ 8
  have xd0_9 : w1.cell? ⟨w.heap.size, 9, none⟩ = some (.int .u32 a.ia) := d0.at_ 9
  have xd0_10 : w1.cell? ⟨w.heap.size, 10, none⟩ = some (.int .u16 a.ip) := d0.at_ 10
  have xd1_0 : w1.cell? ⟨w.heap.size + 1, 0, none⟩ = some (.int .i64 b.k) := d1.at_ 0
  have xd1_1 : w1.cell? ⟨w.heap.size + 1, 1, none⟩ = some (.int .u8 b.p) := d1.at_ 1
  have xd1_2 : w1.cell? ⟨w.heap.size + 1, 2, none⟩ = some (.int .u32 b.sa) := d1.at_ 2
  have xd1_3 : w1.cell? ⟨w.heap.size + 1, 3, none⟩ = some (.int .i64 b.sb) := d1.at_ 3
  have xd1_4 : w1.cell? ⟨w.heap.size + 1, 4, none⟩ = some (.int .u32 b.da) := d1.at_ 4
  have xd1_5 : w1.cell? ⟨w.heap.size + 1, 5, none⟩ = some (.int .i64 b.db) := d1.at_ 5
  have xd1_6 : w1.cell? ⟨w.heap.size + 1, 6, none⟩ = some (.int .u32 b.e) := d1.at_ 6
  have xd1_7 : w1.cell? ⟨w.heap.size + 1, 7, none⟩ = some (.int .u16 b.f) := d1.at_ 7
  have xd1_8 : w1.cell? ⟨w.heap.size + 1, 8, none⟩ = some (.int .u16 b.t) := d1.at_ 8
  have xd1_9 : w1.cell? ⟨w.heap.size + 1, 9, none⟩ = some (.int .u32 b.ia) := d1.at_ 9
  have xd1_10 : w1.cell? ⟨w.heap.size + 1, 10, none⟩ = some (.int .u16 b.ip) := d1.at_ 10
  have L0 := hide l0
  clear d0 d1 l0
  go_wp2_with fail
  go_ret
  exact ⟨rfl, L0.out⟩

set_option maxHeartbeats 8000000 in
set_option maxRecDepth 100000 in
theorem d_Clash_30 (w : World) (B : Nat) (o ip b' : Int) (v : Value) (a b : Rule) (h : Doc w B o ip b' v) (q1 : (a.k == 3) = true) (q1' : (a.k != 3) = false) (q2 : (b.k == 3) = false) (q2' : (b.k != 3) = true) :
    Calls Try.prog 47 #[.pointer (some ⟨B, 0, none⟩), .agg #[.int .i64 a.k, .int .u8 a.p, .int .u32 a.sa, .int .i64 a.sb, .int .u32 a.da, .int .i64 a.db, .int .u32 a.e, .int .u16 a.f, .int .u16 a.t, .int .u32 a.ia, .int .u16 a.ip], .agg #[.int .i64 b.k, .int .u8 b.p, .int .u32 b.sa, .int .i64 b.sb, .int .u32 b.da, .int .i64 b.db, .int .u32 b.e, .int .u16 b.f, .int .u16 b.t, .int .u32 b.ia, .int .u16 b.ip]] w (Ret (.bool (dc3 o a b)) w) := by
  have ce := fun W (hW : Below w.heap.size w W) => d_ext W B o ip b' _ b (Doc.below h hW)
  obtain ⟨vv, hvv⟩ : ∃ vv, vv = dc3 o a b := ⟨_, rfl⟩
  rw [← hvv]
  unfold dc3 at hvv
  unfold Rule.cells at ce
  generalize (wholeR o b).e = ze at *
  obtain ⟨z1, hz1⟩ : ∃ z1, decide (ze = a.e) = z1 := ⟨_, rfl⟩
  obtain ⟨z2, y2⟩ : ∃ z2, decide (b.f ≤ a.f) = z2 := ⟨_, rfl⟩
  obtain ⟨z3, y3⟩ : ∃ z3, decide (a.f ≤ b.t) = z3 := ⟨_, rfl⟩
  obtain ⟨z4, y4⟩ : ∃ z4, (b.p != 0) = z4 := ⟨_, rfl⟩
  obtain ⟨z5, y5⟩ : ∃ z5, (b.p != a.p) = z5 := ⟨_, rfl⟩
  have t4 : decide (b.p ≠ 0) = z4 := by rw [← y4, Bool.eq_iff_iff]; simp
  have t5 : decide (b.p ≠ a.p) = z5 := by rw [← y5, Bool.eq_iff_iff]; simp
  rw [hz1, y2, y3, t4, t5] at hvv
  clear t4 t5
  have y1 : (ze == a.e) = z1 := hz1
  clear hz1
  have HV := hide hvv; have H := hide h; have CE := hide ce
  clear hvv h ce
  go_enter Try.func47, Try.ntmps47
  have d0 := Cells.new w #[.int .i64 a.k, .int .u8 a.p, .int .u32 a.sa, .int .i64 a.sb, .int .u32 a.da, .int .i64 a.db, .int .u32 a.e, .int .u16 a.f, .int .u16 a.t, .int .u32 a.ia, .int .u16 a.ip] 30
  replace d0 := Cells.below (fresh_below (w.alloc (.cells #[.int .i64 a.k, .int .u8 a.p, .int .u32 a.sa, .int .i64 a.sb, .int .u32 a.da, .int .i64 a.db, .int .u32 a.e, .int .u16 a.f, .int .u16 a.t, .int .u32 a.ia, .int .u16 a.ip] 30)) (.cells #[.int .i64 b.k, .int .u8 b.p, .int .u32 b.sa, .int .i64 b.sb, .int .u32 b.da, .int .i64 b.db, .int .u32 b.e, .int .u16 b.f, .int .u16 b.t, .int .u32 b.ia, .int .u16 b.ip] 30)) d0
  have d1 := Cells.new (w.alloc (.cells #[.int .i64 a.k, .int .u8 a.p, .int .u32 a.sa, .int .i64 a.sb, .int .u32 a.da, .int .i64 a.db, .int .u32 a.e, .int .u16 a.f, .int .u16 a.t, .int .u32 a.ia, .int .u16 a.ip] 30)) #[.int .i64 b.k, .int .u8 b.p, .int .u32 b.sa, .int .i64 b.sb, .int .u32 b.da, .int .i64 b.db, .int .u32 b.e, .int .u16 b.f, .int .u16 b.t, .int .u32 b.ia, .int .u16 b.ip] 30
  have l0 : Below w.heap.size w ((w.alloc (.cells #[.int .i64 a.k, .int .u8 a.p, .int .u32 a.sa, .int .i64 a.sb, .int .u32 a.da, .int .i64 a.db, .int .u32 a.e, .int .u16 a.f, .int .u16 a.t, .int .u32 a.ia, .int .u16 a.ip] 30)).alloc (.cells #[.int .i64 b.k, .int .u8 b.p, .int .u32 b.sa, .int .i64 b.sb, .int .u32 b.da, .int .i64 b.db, .int .u32 b.e, .int .u16 b.f, .int .u16 b.t, .int .u32 b.ia, .int .u16 b.ip] 30)) := bstep (fresh_below _ _) (fresh_below _ _)
  rw [World.size_alloc] at d1
  have L0 := hide l0; have D0 := hide d0; have D1 := hide d1
  clear l0 d0 d1
  go_upto_region 1 with fail
  have l0 := L0.out; have d0 := D0.out; have d1 := D1.out
  clear L0 D0 D1
  generalize ((w.alloc (.cells #[.int .i64 a.k, .int .u8 a.p, .int .u32 a.sa, .int .i64 a.sb, .int .u32 a.da, .int .i64 a.db, .int .u32 a.e, .int .u16 a.f, .int .u16 a.t, .int .u32 a.ia, .int .u16 a.ip] 30)).alloc (.cells #[.int .i64 b.k, .int .u8 b.p, .int .u32 b.sa, .int .i64 b.sb, .int .u32 b.da, .int .i64 b.db, .int .u32 b.e, .int .u16 b.f, .int .u16 b.t, .int .u32 b.ia, .int .u16 b.ip] 30)) = w1 at *
  have qd0_0 : ∀ W', Below w1.heap.size w1 W' → World.cell? W' ⟨w.heap.size, 0, none⟩ = some (.int .i64 a.k) := fun W' h => Cells.at_ (Cells.below h d0) 0
  have qd0_1 : ∀ W', Below w1.heap.size w1 W' → World.cell? W' ⟨w.heap.size, 1, none⟩ = some (.int .u8 a.p) := fun W' h => Cells.at_ (Cells.below h d0) 1
  have qd0_2 : ∀ W', Below w1.heap.size w1 W' → World.cell? W' ⟨w.heap.size, 2, none⟩ = some (.int .u32 a.sa) := fun W' h => Cells.at_ (Cells.below h d0) 2
  have qd0_3 : ∀ W', Below w1.heap.size w1 W' → World.cell? W' ⟨w.heap.size, 3, none⟩ = some (.int .i64 a.sb) := fun W' h => Cells.at_ (Cells.below h d0) 3
  have qd0_4 : ∀ W', Below w1.heap.size w1 W' → World.cell? W' ⟨w.heap.size, 4, none⟩ = some (.int .u32 a.da) := fun W' h => Cells.at_ (Cells.below h d0) 4
  have qd0_5 : ∀ W', Below w1.heap.size w1 W' → World.cell? W' ⟨w.heap.size, 5, none⟩ = some (.int .i64 a.db) := fun W' h => Cells.at_ (Cells.below h d0) 5
  have qd0_6 : ∀ W', Below w1.heap.size w1 W' → World.cell? W' ⟨w.heap.size, 6, none⟩ = some (.int .u32 a.e) := fun W' h => Cells.at_ (Cells.below h d0) 6
  have qd0_7 : ∀ W', Below w1.heap.size w1 W' → World.cell? W' ⟨w.heap.size, 7, none⟩ = some (.int .u16 a.f) := fun W' h => Cells.at_ (Cells.below h d0) 7
  have qd0_8 : ∀ W', Below w1.heap.size w1 W' → World.cell? W' ⟨w.heap.size, 8, none⟩ = some (.int .u16 a.t) := fun W' h => Cells.at_ (Cells.below h d0) 8
  have qd0_9 : ∀ W', Below w1.heap.size w1 W' → World.cell? W' ⟨w.heap.size, 9, none⟩ = some (.int .u32 a.ia) := fun W' h => Cells.at_ (Cells.below h d0) 9
  have qd0_10 : ∀ W', Below w1.heap.size w1 W' → World.cell? W' ⟨w.heap.size, 10, none⟩ = some (.int .u16 a.ip) := fun W' h => Cells.at_ (Cells.below h d0) 10
  have qd1_0 : ∀ W', Below w1.heap.size w1 W' → World.cell? W' ⟨w.heap.size + 1, 0, none⟩ = some (.int .i64 b.k) := fun W' h => Cells.at_ (Cells.below h d1) 0
  have qd1_1 : ∀ W', Below w1.heap.size w1 W' → World.cell? W' ⟨w.heap.size + 1, 1, none⟩ = some (.int .u8 b.p) := fun W' h => Cells.at_ (Cells.below h d1) 1
  have qd1_2 : ∀ W', Below w1.heap.size w1 W' → World.cell? W' ⟨w.heap.size + 1, 2, none⟩ = some (.int .u32 b.sa) := fun W' h => Cells.at_ (Cells.below h d1) 2
  have qd1_3 : ∀ W', Below w1.heap.size w1 W' → World.cell? W' ⟨w.heap.size + 1, 3, none⟩ = some (.int .i64 b.sb) := fun W' h => Cells.at_ (Cells.below h d1) 3
  have qd1_4 : ∀ W', Below w1.heap.size w1 W' → World.cell? W' ⟨w.heap.size + 1, 4, none⟩ = some (.int .u32 b.da) := fun W' h => Cells.at_ (Cells.below h d1) 4
  have qd1_5 : ∀ W', Below w1.heap.size w1 W' → World.cell? W' ⟨w.heap.size + 1, 5, none⟩ = some (.int .i64 b.db) := fun W' h => Cells.at_ (Cells.below h d1) 5
  have qd1_6 : ∀ W', Below w1.heap.size w1 W' → World.cell? W' ⟨w.heap.size + 1, 6, none⟩ = some (.int .u32 b.e) := fun W' h => Cells.at_ (Cells.below h d1) 6
  have qd1_7 : ∀ W', Below w1.heap.size w1 W' → World.cell? W' ⟨w.heap.size + 1, 7, none⟩ = some (.int .u16 b.f) := fun W' h => Cells.at_ (Cells.below h d1) 7
  have qd1_8 : ∀ W', Below w1.heap.size w1 W' → World.cell? W' ⟨w.heap.size + 1, 8, none⟩ = some (.int .u16 b.t) := fun W' h => Cells.at_ (Cells.below h d1) 8
  have qd1_9 : ∀ W', Below w1.heap.size w1 W' → World.cell? W' ⟨w.heap.size + 1, 9, none⟩ = some (.int .u32 b.ia) := fun W' h => Cells.at_ (Cells.below h d1) 9
  have qd1_10 : ∀ W', Below w1.heap.size w1 W' → World.cell? W' ⟨w.heap.size + 1, 10, none⟩ = some (.int .u16 b.ip) := fun W' h => Cells.at_ (Cells.below h d1) 10
  have bb : Below w1.heap.size w1 w1 := Below.refl _ _
  have L0 := hide l0; have D0 := hide d0; have D1 := hide d1
  clear l0 d0 d1
  go_upto_region 5 with fail
  have l0 := L0.out; have d0 := D0.out; have d1 := D1.out
  clear L0 D0 D1 bb qd0_0 qd1_0 qd0_1 qd1_1 qd0_2 qd1_2 qd0_3 qd1_3 qd0_4 qd1_4 qd0_5 qd1_5 qd0_6 qd1_6 qd0_7 qd1_7 qd0_8 qd1_8 qd0_9 qd1_9 qd0_10 qd1_10
  generalize w1 = w2 at *
  have qd0_0 : ∀ W', Below w2.heap.size w2 W' → World.cell? W' ⟨w.heap.size, 0, none⟩ = some (.int .i64 a.k) := fun W' h => Cells.at_ (Cells.below h d0) 0
  have qd0_1 : ∀ W', Below w2.heap.size w2 W' → World.cell? W' ⟨w.heap.size, 1, none⟩ = some (.int .u8 a.p) := fun W' h => Cells.at_ (Cells.below h d0) 1
  have qd0_2 : ∀ W', Below w2.heap.size w2 W' → World.cell? W' ⟨w.heap.size, 2, none⟩ = some (.int .u32 a.sa) := fun W' h => Cells.at_ (Cells.below h d0) 2
  have qd0_3 : ∀ W', Below w2.heap.size w2 W' → World.cell? W' ⟨w.heap.size, 3, none⟩ = some (.int .i64 a.sb) := fun W' h => Cells.at_ (Cells.below h d0) 3
  have qd0_4 : ∀ W', Below w2.heap.size w2 W' → World.cell? W' ⟨w.heap.size, 4, none⟩ = some (.int .u32 a.da) := fun W' h => Cells.at_ (Cells.below h d0) 4
  have qd0_5 : ∀ W', Below w2.heap.size w2 W' → World.cell? W' ⟨w.heap.size, 5, none⟩ = some (.int .i64 a.db) := fun W' h => Cells.at_ (Cells.below h d0) 5
  have qd0_6 : ∀ W', Below w2.heap.size w2 W' → World.cell? W' ⟨w.heap.size, 6, none⟩ = some (.int .u32 a.e) := fun W' h => Cells.at_ (Cells.below h d0) 6
  have qd0_7 : ∀ W', Below w2.heap.size w2 W' → World.cell? W' ⟨w.heap.size, 7, none⟩ = some (.int .u16 a.f) := fun W' h => Cells.at_ (Cells.below h d0) 7
  have qd0_8 : ∀ W', Below w2.heap.size w2 W' → World.cell? W' ⟨w.heap.size, 8, none⟩ = some (.int .u16 a.t) := fun W' h => Cells.at_ (Cells.below h d0) 8
  have qd0_9 : ∀ W', Below w2.heap.size w2 W' → World.cell? W' ⟨w.heap.size, 9, none⟩ = some (.int .u32 a.ia) := fun W' h => Cells.at_ (Cells.below h d0) 9
  have qd0_10 : ∀ W', Below w2.heap.size w2 W' → World.cell? W' ⟨w.heap.size, 10, none⟩ = some (.int .u16 a.ip) := fun W' h => Cells.at_ (Cells.below h d0) 10
  have qd1_0 : ∀ W', Below w2.heap.size w2 W' → World.cell? W' ⟨w.heap.size + 1, 0, none⟩ = some (.int .i64 b.k) := fun W' h => Cells.at_ (Cells.below h d1) 0
  have qd1_1 : ∀ W', Below w2.heap.size w2 W' → World.cell? W' ⟨w.heap.size + 1, 1, none⟩ = some (.int .u8 b.p) := fun W' h => Cells.at_ (Cells.below h d1) 1
  have qd1_2 : ∀ W', Below w2.heap.size w2 W' → World.cell? W' ⟨w.heap.size + 1, 2, none⟩ = some (.int .u32 b.sa) := fun W' h => Cells.at_ (Cells.below h d1) 2
  have qd1_3 : ∀ W', Below w2.heap.size w2 W' → World.cell? W' ⟨w.heap.size + 1, 3, none⟩ = some (.int .i64 b.sb) := fun W' h => Cells.at_ (Cells.below h d1) 3
  have qd1_4 : ∀ W', Below w2.heap.size w2 W' → World.cell? W' ⟨w.heap.size + 1, 4, none⟩ = some (.int .u32 b.da) := fun W' h => Cells.at_ (Cells.below h d1) 4
  have qd1_5 : ∀ W', Below w2.heap.size w2 W' → World.cell? W' ⟨w.heap.size + 1, 5, none⟩ = some (.int .i64 b.db) := fun W' h => Cells.at_ (Cells.below h d1) 5
  have qd1_6 : ∀ W', Below w2.heap.size w2 W' → World.cell? W' ⟨w.heap.size + 1, 6, none⟩ = some (.int .u32 b.e) := fun W' h => Cells.at_ (Cells.below h d1) 6
  have qd1_7 : ∀ W', Below w2.heap.size w2 W' → World.cell? W' ⟨w.heap.size + 1, 7, none⟩ = some (.int .u16 b.f) := fun W' h => Cells.at_ (Cells.below h d1) 7
  have qd1_8 : ∀ W', Below w2.heap.size w2 W' → World.cell? W' ⟨w.heap.size + 1, 8, none⟩ = some (.int .u16 b.t) := fun W' h => Cells.at_ (Cells.below h d1) 8
  have qd1_9 : ∀ W', Below w2.heap.size w2 W' → World.cell? W' ⟨w.heap.size + 1, 9, none⟩ = some (.int .u32 b.ia) := fun W' h => Cells.at_ (Cells.below h d1) 9
  have qd1_10 : ∀ W', Below w2.heap.size w2 W' → World.cell? W' ⟨w.heap.size + 1, 10, none⟩ = some (.int .u16 b.ip) := fun W' h => Cells.at_ (Cells.below h d1) 10
  have bb : Below w2.heap.size w2 w2 := Below.refl _ _
  have L2 := hide l0
  clear l0 d0 d1
  cases z4 <;> cases z5
  case true.true =>
    go_wp2_with fail
    go_ret
    exact ⟨ret_bool (by rw [HV.out]; rfl), L2.out⟩
  case true.false =>
    have hv2 := HV.out
    simp only [Bool.and_false, Bool.false_and, Bool.and_true, Bool.not_false, Bool.true_and] at hv2
    have HV := hide hv2
    clear hv2
    go_wp2_with fail
    cases z1 with
    | false =>
      refine wp_region_held_drew (S := fun W => Below w2.heap.size w2 W) (by kernel_rfl) (bb.drew) (fun hS0 => ?_)
      refine wpAnyH_take (i := 0) (v := ?v0_1) rfl (by kernel_rfl) (by kernel_rfl) (by kernel_rfl) (fun _ _ _ h => h) (Or.inl (And.intro (by kernel_rfl) ?q0_1)) hS0 ?r0_1; (case q0_1 => (intro w hx; (try dsimp only); (try go_simp); (try with_reducible rfl)))
      (try simp only [Act.put, List.setIfInBounds_toArray, List.set_cons_zero, List.set_cons_succ, List.getElem_toArray, List.getElem_cons_succ, List.getElem_cons_zero])
      refine wpAnyH_take (i := 1) (v := ?v1_2) rfl (by kernel_rfl) (by kernel_rfl) (by kernel_rfl) (fun _ _ _ h => h) (Or.inl (And.intro (by kernel_rfl) ?q1_2)) hS0 ?r1_2; (case q1_2 => (intro w hx; (try dsimp only); (try go_simp); (try with_reducible rfl)))
      (try simp only [Act.put, List.setIfInBounds_toArray, List.set_cons_zero, List.set_cons_succ, List.getElem_toArray, List.getElem_cons_succ, List.getElem_cons_zero])
      refine wpAnyH_take (i := 3) (v := ?v3_3) rfl (by kernel_rfl) (by kernel_rfl) (by kernel_rfl) (fun _ _ _ h => h) (Or.inl (And.intro (by kernel_rfl) ?q3_3)) hS0 ?r3_3; (case q3_3 => (intro w hx; (try dsimp only); (try go_simp); (try with_reducible rfl)))
      (try simp only [Act.put, List.setIfInBounds_toArray, List.set_cons_zero, List.set_cons_succ, List.getElem_toArray, List.getElem_cons_succ, List.getElem_cons_zero])
      refine wpAnyH_take (i := 4) (v := ?v4_4) rfl (by kernel_rfl) (by kernel_rfl) (by kernel_rfl) (fun _ _ _ h => h) (Or.inl (And.intro (by kernel_rfl) ?q4_4)) hS0 ?r4_4; (case q4_4 => (intro w hx; (try dsimp only); (try go_simp); (try with_reducible rfl)))
      (try simp only [Act.put, List.setIfInBounds_toArray, List.set_cons_zero, List.set_cons_succ, List.getElem_toArray, List.getElem_cons_succ, List.getElem_cons_zero])
      all_goals refine wpAnyH_ready (rs := [2]) (by kernel_rfl) (by simp) ?_
      all_goals refine AllReadyH.cons rfl (fun K hK => ?_) AllReadyH.nil
      all_goals (rw [if_pos (by kernel_rfl)]; (try simp only [List.getElem_toArray, List.getElem_cons_succ, List.getElem_cons_zero]); go_simp; ((with_reducible refine (CE.out _ (bstep L2.out hS0)).mono ?_); rintro e wq ⟨rfl, bq⟩); (try go_wp2_with fail); refine hK.out _ _ (by (first | with_reducible exact hS0 | exact bstep hS0 bq)) (fun hS0 => ?_); clear hK K; (try simp only [Act.put, List.setIfInBounds_toArray, List.set_cons_zero, List.set_cons_succ, List.getElem_toArray, List.getElem_cons_succ, List.getElem_cons_zero]))
      refine wpAnyH_take (i := 5) (v := ?v5_5) rfl (by kernel_rfl) (by kernel_rfl) (by kernel_rfl) (fun _ _ _ h => h) (Or.inl (And.intro (by kernel_rfl) ?q5_5)) hS0 ?r5_5; (case q5_5 => (intro w hx; (try dsimp only); (try go_simp); (try with_reducible rfl)))
      (try simp only [Act.put, List.setIfInBounds_toArray, List.set_cons_zero, List.set_cons_succ, List.getElem_toArray, List.getElem_cons_succ, List.getElem_cons_zero])
      refine wpAnyH_take (i := 6) (v := ?v6_6) rfl (by kernel_rfl) (by kernel_rfl) (by kernel_rfl) (fun _ _ _ h => h) (Or.inl (And.intro (by kernel_rfl) ?q6_6)) hS0 ?r6_6; (case q6_6 => (intro w hx; (try dsimp only); (try go_simp); (try with_reducible rfl)))
      (try simp only [Act.put, List.setIfInBounds_toArray, List.set_cons_zero, List.set_cons_succ, List.getElem_toArray, List.getElem_cons_succ, List.getElem_cons_zero])
      refine wpAnyH_take (i := 7) (v := undef) rfl (by kernel_rfl) (by kernel_rfl) (by kernel_rfl) (fun _ _ _ h => h) (Or.inr (And.intro (by kernel_rfl) rfl)) hS0 ?r7_7
      (try simp only [Act.put, List.setIfInBounds_toArray, List.set_cons_zero, List.set_cons_succ, List.getElem_toArray, List.getElem_cons_succ, List.getElem_cons_zero])
      refine wpAnyH_take (i := 8) (v := undef) rfl (by kernel_rfl) (by kernel_rfl) (by kernel_rfl) (fun _ _ _ h => h) (Or.inr (And.intro (by kernel_rfl) rfl)) hS0 ?r8_8
      (try simp only [Act.put, List.setIfInBounds_toArray, List.set_cons_zero, List.set_cons_succ, List.getElem_toArray, List.getElem_cons_succ, List.getElem_cons_zero])
      refine wpAnyH_take (i := 9) (v := undef) rfl (by kernel_rfl) (by kernel_rfl) (by kernel_rfl) (fun _ _ _ h => h) (Or.inr (And.intro (by kernel_rfl) rfl)) hS0 ?r9_9
      (try simp only [Act.put, List.setIfInBounds_toArray, List.set_cons_zero, List.set_cons_succ, List.getElem_toArray, List.getElem_cons_succ, List.getElem_cons_zero])
      refine wpAnyH_take (i := 10) (v := undef) rfl (by kernel_rfl) (by kernel_rfl) (by kernel_rfl) (fun _ _ _ h => h) (Or.inr (And.intro (by kernel_rfl) rfl)) hS0 ?r10_10
      (try simp only [Act.put, List.setIfInBounds_toArray, List.set_cons_zero, List.set_cons_succ, List.getElem_toArray, List.getElem_cons_succ, List.getElem_cons_zero])
      refine wpAnyH_take (i := 11) (v := undef) rfl (by kernel_rfl) (by kernel_rfl) (by kernel_rfl) (fun _ _ _ h => h) (Or.inr (And.intro (by kernel_rfl) rfl)) hS0 ?r11_11
      (try simp only [Act.put, List.setIfInBounds_toArray, List.set_cons_zero, List.set_cons_succ, List.getElem_toArray, List.getElem_cons_succ, List.getElem_cons_zero])
      refine wpAnyH_take (i := 12) (v := ?v12_12) rfl (by kernel_rfl) (by kernel_rfl) (by kernel_rfl) (fun _ _ _ h => h) (Or.inl (And.intro (by kernel_rfl) ?q12_12)) hS0 ?r12_12; (case q12_12 => (intro w hx; (try dsimp only); (try go_simp); (try with_reducible rfl)))
      (try simp only [Act.put, List.setIfInBounds_toArray, List.set_cons_zero, List.set_cons_succ, List.getElem_toArray, List.getElem_cons_succ, List.getElem_cons_zero])
      refine wpAnyH_take (i := 13) (v := ?v13_13) rfl (by kernel_rfl) (by kernel_rfl) (by kernel_rfl) (fun _ _ _ h => h) (Or.inl (And.intro (by kernel_rfl) ?q13_13)) hS0 ?r13_13; (case q13_13 => (intro w hx; (try dsimp only); (try go_simp); (try with_reducible rfl)))
      (try simp only [Act.put, List.setIfInBounds_toArray, List.set_cons_zero, List.set_cons_succ, List.getElem_toArray, List.getElem_cons_succ, List.getElem_cons_zero])
      refine wpAnyH_take (i := 14) (v := undef) rfl (by kernel_rfl) (by kernel_rfl) (by kernel_rfl) (fun _ _ _ h => h) (Or.inr (And.intro (by kernel_rfl) rfl)) hS0 ?r14_14
      (try simp only [Act.put, List.setIfInBounds_toArray, List.set_cons_zero, List.set_cons_succ, List.getElem_toArray, List.getElem_cons_succ, List.getElem_cons_zero])
      refine wpAnyH_take (i := 15) (v := undef) rfl (by kernel_rfl) (by kernel_rfl) (by kernel_rfl) (fun _ _ _ h => h) (Or.inr (And.intro (by kernel_rfl) rfl)) hS0 ?r15_15
      (try simp only [Act.put, List.setIfInBounds_toArray, List.set_cons_zero, List.set_cons_succ, List.getElem_toArray, List.getElem_cons_succ, List.getElem_cons_zero])
      refine wpAnyH_take (i := 16) (v := undef) rfl (by kernel_rfl) (by kernel_rfl) (by kernel_rfl) (fun _ _ _ h => h) (Or.inr (And.intro (by kernel_rfl) rfl)) hS0 ?r16_16
      (try simp only [Act.put, List.setIfInBounds_toArray, List.set_cons_zero, List.set_cons_succ, List.getElem_toArray, List.getElem_cons_succ, List.getElem_cons_zero])
      refine wpAnyH_take (i := 17) (v := undef) rfl (by kernel_rfl) (by kernel_rfl) (by kernel_rfl) (fun _ _ _ h => h) (Or.inr (And.intro (by kernel_rfl) rfl)) hS0 ?r17_17
      (try simp only [Act.put, List.setIfInBounds_toArray, List.set_cons_zero, List.set_cons_succ, List.getElem_toArray, List.getElem_cons_succ, List.getElem_cons_zero])
      refine wpAnyH_take (i := 18) (v := undef) rfl (by kernel_rfl) (by kernel_rfl) (by kernel_rfl) (fun _ _ _ h => h) (Or.inr (And.intro (by kernel_rfl) rfl)) hS0 ?r18_18
      (try simp only [Act.put, List.setIfInBounds_toArray, List.set_cons_zero, List.set_cons_succ, List.getElem_toArray, List.getElem_cons_succ, List.getElem_cons_zero])
      refine wpAnyH_take (i := 19) (v := ?v19_19) rfl (by kernel_rfl) (by kernel_rfl) (by kernel_rfl) (fun _ _ _ h => h) (Or.inl (And.intro (by kernel_rfl) ?q19_19)) hS0 ?r19_19; (case q19_19 => (intro w hx; (try dsimp only); (try go_simp); (try with_reducible rfl)))
      (try simp only [Act.put, List.setIfInBounds_toArray, List.set_cons_zero, List.set_cons_succ, List.getElem_toArray, List.getElem_cons_succ, List.getElem_cons_zero])
      refine wpAnyH_take (i := 20) (v := ?v20_20) rfl (by kernel_rfl) (by kernel_rfl) (by kernel_rfl) (fun _ _ _ h => h) (Or.inl (And.intro (by kernel_rfl) ?q20_20)) hS0 ?r20_20; (case q20_20 => (intro w hx; (try dsimp only); (try go_simp); (try with_reducible rfl)))
      (try simp only [Act.put, List.setIfInBounds_toArray, List.set_cons_zero, List.set_cons_succ, List.getElem_toArray, List.getElem_cons_succ, List.getElem_cons_zero])
      all_goals refine wpAnyH_done (by kernel_rfl) ?_ _
      go_wp2_with fail
      go_ret
      exact ⟨ret_bool (by rw [HV.out]; simp [y1, y2, y3]), bstep L2.out hS0⟩
    | true =>
      cases z2 with
      | false =>
        refine wp_region_held_drew (S := fun W => Below w2.heap.size w2 W) (by kernel_rfl) (bb.drew) (fun hS0 => ?_)
        refine wpAnyH_take (i := 0) (v := ?v0_21) rfl (by kernel_rfl) (by kernel_rfl) (by kernel_rfl) (fun _ _ _ h => h) (Or.inl (And.intro (by kernel_rfl) ?q0_21)) hS0 ?r0_21; (case q0_21 => (intro w hx; (try dsimp only); (try go_simp); (try with_reducible rfl)))
        (try simp only [Act.put, List.setIfInBounds_toArray, List.set_cons_zero, List.set_cons_succ, List.getElem_toArray, List.getElem_cons_succ, List.getElem_cons_zero])
        refine wpAnyH_take (i := 1) (v := ?v1_22) rfl (by kernel_rfl) (by kernel_rfl) (by kernel_rfl) (fun _ _ _ h => h) (Or.inl (And.intro (by kernel_rfl) ?q1_22)) hS0 ?r1_22; (case q1_22 => (intro w hx; (try dsimp only); (try go_simp); (try with_reducible rfl)))
        (try simp only [Act.put, List.setIfInBounds_toArray, List.set_cons_zero, List.set_cons_succ, List.getElem_toArray, List.getElem_cons_succ, List.getElem_cons_zero])
        refine wpAnyH_take (i := 3) (v := ?v3_23) rfl (by kernel_rfl) (by kernel_rfl) (by kernel_rfl) (fun _ _ _ h => h) (Or.inl (And.intro (by kernel_rfl) ?q3_23)) hS0 ?r3_23; (case q3_23 => (intro w hx; (try dsimp only); (try go_simp); (try with_reducible rfl)))
        (try simp only [Act.put, List.setIfInBounds_toArray, List.set_cons_zero, List.set_cons_succ, List.getElem_toArray, List.getElem_cons_succ, List.getElem_cons_zero])
        refine wpAnyH_take (i := 4) (v := ?v4_24) rfl (by kernel_rfl) (by kernel_rfl) (by kernel_rfl) (fun _ _ _ h => h) (Or.inl (And.intro (by kernel_rfl) ?q4_24)) hS0 ?r4_24; (case q4_24 => (intro w hx; (try dsimp only); (try go_simp); (try with_reducible rfl)))
        (try simp only [Act.put, List.setIfInBounds_toArray, List.set_cons_zero, List.set_cons_succ, List.getElem_toArray, List.getElem_cons_succ, List.getElem_cons_zero])
        all_goals refine wpAnyH_ready (rs := [2]) (by kernel_rfl) (by simp) ?_
        all_goals refine AllReadyH.cons rfl (fun K hK => ?_) AllReadyH.nil
        all_goals (rw [if_pos (by kernel_rfl)]; (try simp only [List.getElem_toArray, List.getElem_cons_succ, List.getElem_cons_zero]); go_simp; ((with_reducible refine (CE.out _ (bstep L2.out hS0)).mono ?_); rintro e wq ⟨rfl, bq⟩); (try go_wp2_with fail); refine hK.out _ _ (by (first | with_reducible exact hS0 | exact bstep hS0 bq)) (fun hS0 => ?_); clear hK K; (try simp only [Act.put, List.setIfInBounds_toArray, List.set_cons_zero, List.set_cons_succ, List.getElem_toArray, List.getElem_cons_succ, List.getElem_cons_zero]))
        refine wpAnyH_take (i := 5) (v := ?v5_25) rfl (by kernel_rfl) (by kernel_rfl) (by kernel_rfl) (fun _ _ _ h => h) (Or.inl (And.intro (by kernel_rfl) ?q5_25)) hS0 ?r5_25; (case q5_25 => (intro w hx; (try dsimp only); (try go_simp); (try with_reducible rfl)))
        (try simp only [Act.put, List.setIfInBounds_toArray, List.set_cons_zero, List.set_cons_succ, List.getElem_toArray, List.getElem_cons_succ, List.getElem_cons_zero])
        refine wpAnyH_take (i := 6) (v := ?v6_26) rfl (by kernel_rfl) (by kernel_rfl) (by kernel_rfl) (fun _ _ _ h => h) (Or.inl (And.intro (by kernel_rfl) ?q6_26)) hS0 ?r6_26; (case q6_26 => (intro w hx; (try dsimp only); (try go_simp); (try with_reducible rfl)))
        (try simp only [Act.put, List.setIfInBounds_toArray, List.set_cons_zero, List.set_cons_succ, List.getElem_toArray, List.getElem_cons_succ, List.getElem_cons_zero])
        refine wpAnyH_take (i := 7) (v := ?v7_27) rfl (by kernel_rfl) (by kernel_rfl) (by kernel_rfl) (fun _ _ _ h => h) (Or.inl (And.intro (by kernel_rfl) ?q7_27)) hS0 ?r7_27; (case q7_27 => (intro w hx; (try dsimp only); (try go_simp); (try with_reducible rfl)))
        (try simp only [Act.put, List.setIfInBounds_toArray, List.set_cons_zero, List.set_cons_succ, List.getElem_toArray, List.getElem_cons_succ, List.getElem_cons_zero])
        refine wpAnyH_take (i := 8) (v := ?v8_28) rfl (by kernel_rfl) (by kernel_rfl) (by kernel_rfl) (fun _ _ _ h => h) (Or.inl (And.intro (by kernel_rfl) ?q8_28)) hS0 ?r8_28; (case q8_28 => (intro w hx; (try dsimp only); (try go_simp); (try with_reducible rfl)))
        (try simp only [Act.put, List.setIfInBounds_toArray, List.set_cons_zero, List.set_cons_succ, List.getElem_toArray, List.getElem_cons_succ, List.getElem_cons_zero])
        refine wpAnyH_take (i := 9) (v := ?v9_29) rfl (by kernel_rfl) (by kernel_rfl) (by kernel_rfl) (fun _ _ _ h => h) (Or.inl (And.intro (by kernel_rfl) ?q9_29)) hS0 ?r9_29; (case q9_29 => (intro w hx; (try dsimp only); (try go_simp); (try with_reducible rfl)))
        (try simp only [Act.put, List.setIfInBounds_toArray, List.set_cons_zero, List.set_cons_succ, List.getElem_toArray, List.getElem_cons_succ, List.getElem_cons_zero])
        refine wpAnyH_take (i := 10) (v := ?v10_30) rfl (by kernel_rfl) (by kernel_rfl) (by kernel_rfl) (fun _ _ _ h => h) (Or.inl (And.intro (by kernel_rfl) ?q10_30)) hS0 ?r10_30; (case q10_30 => (intro w hx; (try dsimp only); (try go_simp); (try with_reducible rfl)))
        (try simp only [Act.put, List.setIfInBounds_toArray, List.set_cons_zero, List.set_cons_succ, List.getElem_toArray, List.getElem_cons_succ, List.getElem_cons_zero])
        refine wpAnyH_take (i := 11) (v := ?v11_31) rfl (by kernel_rfl) (by kernel_rfl) (by kernel_rfl) (fun _ _ _ h => h) (Or.inl (And.intro (by kernel_rfl) ?q11_31)) hS0 ?r11_31; (case q11_31 => (intro w hx; (try dsimp only); (try go_simp); (try with_reducible rfl)))
        (try simp only [Act.put, List.setIfInBounds_toArray, List.set_cons_zero, List.set_cons_succ, List.getElem_toArray, List.getElem_cons_succ, List.getElem_cons_zero])
        refine wpAnyH_take (i := 12) (v := ?v12_32) rfl (by kernel_rfl) (by kernel_rfl) (by kernel_rfl) (fun _ _ _ h => h) (Or.inl (And.intro (by kernel_rfl) ?q12_32)) hS0 ?r12_32; (case q12_32 => (intro w hx; (try dsimp only); (try go_simp); (try with_reducible rfl)))
        (try simp only [Act.put, List.setIfInBounds_toArray, List.set_cons_zero, List.set_cons_succ, List.getElem_toArray, List.getElem_cons_succ, List.getElem_cons_zero])
        refine wpAnyH_take (i := 13) (v := ?v13_33) rfl (by kernel_rfl) (by kernel_rfl) (by kernel_rfl) (fun _ _ _ h => h) (Or.inl (And.intro (by kernel_rfl) ?q13_33)) hS0 ?r13_33; (case q13_33 => (intro w hx; (try dsimp only); (try go_simp); (try with_reducible rfl)))
        (try simp only [Act.put, List.setIfInBounds_toArray, List.set_cons_zero, List.set_cons_succ, List.getElem_toArray, List.getElem_cons_succ, List.getElem_cons_zero])
        refine wpAnyH_take (i := 14) (v := undef) rfl (by kernel_rfl) (by kernel_rfl) (by kernel_rfl) (fun _ _ _ h => h) (Or.inr (And.intro (by kernel_rfl) rfl)) hS0 ?r14_34
        (try simp only [Act.put, List.setIfInBounds_toArray, List.set_cons_zero, List.set_cons_succ, List.getElem_toArray, List.getElem_cons_succ, List.getElem_cons_zero])
        refine wpAnyH_take (i := 15) (v := undef) rfl (by kernel_rfl) (by kernel_rfl) (by kernel_rfl) (fun _ _ _ h => h) (Or.inr (And.intro (by kernel_rfl) rfl)) hS0 ?r15_35
        (try simp only [Act.put, List.setIfInBounds_toArray, List.set_cons_zero, List.set_cons_succ, List.getElem_toArray, List.getElem_cons_succ, List.getElem_cons_zero])
        refine wpAnyH_take (i := 16) (v := undef) rfl (by kernel_rfl) (by kernel_rfl) (by kernel_rfl) (fun _ _ _ h => h) (Or.inr (And.intro (by kernel_rfl) rfl)) hS0 ?r16_36
        (try simp only [Act.put, List.setIfInBounds_toArray, List.set_cons_zero, List.set_cons_succ, List.getElem_toArray, List.getElem_cons_succ, List.getElem_cons_zero])
        refine wpAnyH_take (i := 17) (v := undef) rfl (by kernel_rfl) (by kernel_rfl) (by kernel_rfl) (fun _ _ _ h => h) (Or.inr (And.intro (by kernel_rfl) rfl)) hS0 ?r17_37
        (try simp only [Act.put, List.setIfInBounds_toArray, List.set_cons_zero, List.set_cons_succ, List.getElem_toArray, List.getElem_cons_succ, List.getElem_cons_zero])
        refine wpAnyH_take (i := 18) (v := undef) rfl (by kernel_rfl) (by kernel_rfl) (by kernel_rfl) (fun _ _ _ h => h) (Or.inr (And.intro (by kernel_rfl) rfl)) hS0 ?r18_38
        (try simp only [Act.put, List.setIfInBounds_toArray, List.set_cons_zero, List.set_cons_succ, List.getElem_toArray, List.getElem_cons_succ, List.getElem_cons_zero])
        refine wpAnyH_take (i := 19) (v := ?v19_39) rfl (by kernel_rfl) (by kernel_rfl) (by kernel_rfl) (fun _ _ _ h => h) (Or.inl (And.intro (by kernel_rfl) ?q19_39)) hS0 ?r19_39; (case q19_39 => (intro w hx; (try dsimp only); (try go_simp); (try with_reducible rfl)))
        (try simp only [Act.put, List.setIfInBounds_toArray, List.set_cons_zero, List.set_cons_succ, List.getElem_toArray, List.getElem_cons_succ, List.getElem_cons_zero])
        refine wpAnyH_take (i := 20) (v := ?v20_40) rfl (by kernel_rfl) (by kernel_rfl) (by kernel_rfl) (fun _ _ _ h => h) (Or.inl (And.intro (by kernel_rfl) ?q20_40)) hS0 ?r20_40; (case q20_40 => (intro w hx; (try dsimp only); (try go_simp); (try with_reducible rfl)))
        (try simp only [Act.put, List.setIfInBounds_toArray, List.set_cons_zero, List.set_cons_succ, List.getElem_toArray, List.getElem_cons_succ, List.getElem_cons_zero])
        all_goals refine wpAnyH_done (by kernel_rfl) ?_ _
        go_wp2_with fail
        go_ret
        exact ⟨ret_bool (by rw [HV.out]; simp [y1, y2, y3]), bstep L2.out hS0⟩
      | true =>
        refine wp_region_held_drew (S := fun W => Below w2.heap.size w2 W) (by kernel_rfl) (bb.drew) (fun hS0 => ?_)
        refine wpAnyH_take (i := 0) (v := ?v0_41) rfl (by kernel_rfl) (by kernel_rfl) (by kernel_rfl) (fun _ _ _ h => h) (Or.inl (And.intro (by kernel_rfl) ?q0_41)) hS0 ?r0_41; (case q0_41 => (intro w hx; (try dsimp only); (try go_simp); (try with_reducible rfl)))
        (try simp only [Act.put, List.setIfInBounds_toArray, List.set_cons_zero, List.set_cons_succ, List.getElem_toArray, List.getElem_cons_succ, List.getElem_cons_zero])
        refine wpAnyH_take (i := 1) (v := ?v1_42) rfl (by kernel_rfl) (by kernel_rfl) (by kernel_rfl) (fun _ _ _ h => h) (Or.inl (And.intro (by kernel_rfl) ?q1_42)) hS0 ?r1_42; (case q1_42 => (intro w hx; (try dsimp only); (try go_simp); (try with_reducible rfl)))
        (try simp only [Act.put, List.setIfInBounds_toArray, List.set_cons_zero, List.set_cons_succ, List.getElem_toArray, List.getElem_cons_succ, List.getElem_cons_zero])
        refine wpAnyH_take (i := 3) (v := ?v3_43) rfl (by kernel_rfl) (by kernel_rfl) (by kernel_rfl) (fun _ _ _ h => h) (Or.inl (And.intro (by kernel_rfl) ?q3_43)) hS0 ?r3_43; (case q3_43 => (intro w hx; (try dsimp only); (try go_simp); (try with_reducible rfl)))
        (try simp only [Act.put, List.setIfInBounds_toArray, List.set_cons_zero, List.set_cons_succ, List.getElem_toArray, List.getElem_cons_succ, List.getElem_cons_zero])
        refine wpAnyH_take (i := 4) (v := ?v4_44) rfl (by kernel_rfl) (by kernel_rfl) (by kernel_rfl) (fun _ _ _ h => h) (Or.inl (And.intro (by kernel_rfl) ?q4_44)) hS0 ?r4_44; (case q4_44 => (intro w hx; (try dsimp only); (try go_simp); (try with_reducible rfl)))
        (try simp only [Act.put, List.setIfInBounds_toArray, List.set_cons_zero, List.set_cons_succ, List.getElem_toArray, List.getElem_cons_succ, List.getElem_cons_zero])
        all_goals refine wpAnyH_ready (rs := [2]) (by kernel_rfl) (by simp) ?_
        all_goals refine AllReadyH.cons rfl (fun K hK => ?_) AllReadyH.nil
        all_goals (rw [if_pos (by kernel_rfl)]; (try simp only [List.getElem_toArray, List.getElem_cons_succ, List.getElem_cons_zero]); go_simp; ((with_reducible refine (CE.out _ (bstep L2.out hS0)).mono ?_); rintro e wq ⟨rfl, bq⟩); (try go_wp2_with fail); refine hK.out _ _ (by (first | with_reducible exact hS0 | exact bstep hS0 bq)) (fun hS0 => ?_); clear hK K; (try simp only [Act.put, List.setIfInBounds_toArray, List.set_cons_zero, List.set_cons_succ, List.getElem_toArray, List.getElem_cons_succ, List.getElem_cons_zero]))
        refine wpAnyH_take (i := 5) (v := ?v5_45) rfl (by kernel_rfl) (by kernel_rfl) (by kernel_rfl) (fun _ _ _ h => h) (Or.inl (And.intro (by kernel_rfl) ?q5_45)) hS0 ?r5_45; (case q5_45 => (intro w hx; (try dsimp only); (try go_simp); (try with_reducible rfl)))
        (try simp only [Act.put, List.setIfInBounds_toArray, List.set_cons_zero, List.set_cons_succ, List.getElem_toArray, List.getElem_cons_succ, List.getElem_cons_zero])
        refine wpAnyH_take (i := 6) (v := ?v6_46) rfl (by kernel_rfl) (by kernel_rfl) (by kernel_rfl) (fun _ _ _ h => h) (Or.inl (And.intro (by kernel_rfl) ?q6_46)) hS0 ?r6_46; (case q6_46 => (intro w hx; (try dsimp only); (try go_simp); (try with_reducible rfl)))
        (try simp only [Act.put, List.setIfInBounds_toArray, List.set_cons_zero, List.set_cons_succ, List.getElem_toArray, List.getElem_cons_succ, List.getElem_cons_zero])
        refine wpAnyH_take (i := 7) (v := ?v7_47) rfl (by kernel_rfl) (by kernel_rfl) (by kernel_rfl) (fun _ _ _ h => h) (Or.inl (And.intro (by kernel_rfl) ?q7_47)) hS0 ?r7_47; (case q7_47 => (intro w hx; (try dsimp only); (try go_simp); (try with_reducible rfl)))
        (try simp only [Act.put, List.setIfInBounds_toArray, List.set_cons_zero, List.set_cons_succ, List.getElem_toArray, List.getElem_cons_succ, List.getElem_cons_zero])
        refine wpAnyH_take (i := 8) (v := ?v8_48) rfl (by kernel_rfl) (by kernel_rfl) (by kernel_rfl) (fun _ _ _ h => h) (Or.inl (And.intro (by kernel_rfl) ?q8_48)) hS0 ?r8_48; (case q8_48 => (intro w hx; (try dsimp only); (try go_simp); (try with_reducible rfl)))
        (try simp only [Act.put, List.setIfInBounds_toArray, List.set_cons_zero, List.set_cons_succ, List.getElem_toArray, List.getElem_cons_succ, List.getElem_cons_zero])
        refine wpAnyH_take (i := 9) (v := ?v9_49) rfl (by kernel_rfl) (by kernel_rfl) (by kernel_rfl) (fun _ _ _ h => h) (Or.inl (And.intro (by kernel_rfl) ?q9_49)) hS0 ?r9_49; (case q9_49 => (intro w hx; (try dsimp only); (try go_simp); (try with_reducible rfl)))
        (try simp only [Act.put, List.setIfInBounds_toArray, List.set_cons_zero, List.set_cons_succ, List.getElem_toArray, List.getElem_cons_succ, List.getElem_cons_zero])
        refine wpAnyH_take (i := 10) (v := ?v10_50) rfl (by kernel_rfl) (by kernel_rfl) (by kernel_rfl) (fun _ _ _ h => h) (Or.inl (And.intro (by kernel_rfl) ?q10_50)) hS0 ?r10_50; (case q10_50 => (intro w hx; (try dsimp only); (try go_simp); (try with_reducible rfl)))
        (try simp only [Act.put, List.setIfInBounds_toArray, List.set_cons_zero, List.set_cons_succ, List.getElem_toArray, List.getElem_cons_succ, List.getElem_cons_zero])
        refine wpAnyH_take (i := 11) (v := ?v11_51) rfl (by kernel_rfl) (by kernel_rfl) (by kernel_rfl) (fun _ _ _ h => h) (Or.inl (And.intro (by kernel_rfl) ?q11_51)) hS0 ?r11_51; (case q11_51 => (intro w hx; (try dsimp only); (try go_simp); (try with_reducible rfl)))
        (try simp only [Act.put, List.setIfInBounds_toArray, List.set_cons_zero, List.set_cons_succ, List.getElem_toArray, List.getElem_cons_succ, List.getElem_cons_zero])
        refine wpAnyH_take (i := 12) (v := ?v12_52) rfl (by kernel_rfl) (by kernel_rfl) (by kernel_rfl) (fun _ _ _ h => h) (Or.inl (And.intro (by kernel_rfl) ?q12_52)) hS0 ?r12_52; (case q12_52 => (intro w hx; (try dsimp only); (try go_simp); (try with_reducible rfl)))
        (try simp only [Act.put, List.setIfInBounds_toArray, List.set_cons_zero, List.set_cons_succ, List.getElem_toArray, List.getElem_cons_succ, List.getElem_cons_zero])
        refine wpAnyH_take (i := 13) (v := ?v13_53) rfl (by kernel_rfl) (by kernel_rfl) (by kernel_rfl) (fun _ _ _ h => h) (Or.inl (And.intro (by kernel_rfl) ?q13_53)) hS0 ?r13_53; (case q13_53 => (intro w hx; (try dsimp only); (try go_simp); (try with_reducible rfl)))
        (try simp only [Act.put, List.setIfInBounds_toArray, List.set_cons_zero, List.set_cons_succ, List.getElem_toArray, List.getElem_cons_succ, List.getElem_cons_zero])
        refine wpAnyH_take (i := 14) (v := ?v14_54) rfl (by kernel_rfl) (by kernel_rfl) (by kernel_rfl) (fun _ _ _ h => h) (Or.inl (And.intro (by kernel_rfl) ?q14_54)) hS0 ?r14_54; (case q14_54 => (intro w hx; (try dsimp only); (try go_simp); (try with_reducible rfl)))
        (try simp only [Act.put, List.setIfInBounds_toArray, List.set_cons_zero, List.set_cons_succ, List.getElem_toArray, List.getElem_cons_succ, List.getElem_cons_zero])
        refine wpAnyH_take (i := 15) (v := ?v15_55) rfl (by kernel_rfl) (by kernel_rfl) (by kernel_rfl) (fun _ _ _ h => h) (Or.inl (And.intro (by kernel_rfl) ?q15_55)) hS0 ?r15_55; (case q15_55 => (intro w hx; (try dsimp only); (try go_simp); (try with_reducible rfl)))
        (try simp only [Act.put, List.setIfInBounds_toArray, List.set_cons_zero, List.set_cons_succ, List.getElem_toArray, List.getElem_cons_succ, List.getElem_cons_zero])
        refine wpAnyH_take (i := 16) (v := ?v16_56) rfl (by kernel_rfl) (by kernel_rfl) (by kernel_rfl) (fun _ _ _ h => h) (Or.inl (And.intro (by kernel_rfl) ?q16_56)) hS0 ?r16_56; (case q16_56 => (intro w hx; (try dsimp only); (try go_simp); (try with_reducible rfl)))
        (try simp only [Act.put, List.setIfInBounds_toArray, List.set_cons_zero, List.set_cons_succ, List.getElem_toArray, List.getElem_cons_succ, List.getElem_cons_zero])
        refine wpAnyH_take (i := 17) (v := ?v17_57) rfl (by kernel_rfl) (by kernel_rfl) (by kernel_rfl) (fun _ _ _ h => h) (Or.inl (And.intro (by kernel_rfl) ?q17_57)) hS0 ?r17_57; (case q17_57 => (intro w hx; (try dsimp only); (try go_simp); (try with_reducible rfl)))
        (try simp only [Act.put, List.setIfInBounds_toArray, List.set_cons_zero, List.set_cons_succ, List.getElem_toArray, List.getElem_cons_succ, List.getElem_cons_zero])
        refine wpAnyH_take (i := 18) (v := ?v18_58) rfl (by kernel_rfl) (by kernel_rfl) (by kernel_rfl) (fun _ _ _ h => h) (Or.inl (And.intro (by kernel_rfl) ?q18_58)) hS0 ?r18_58; (case q18_58 => (intro w hx; (try dsimp only); (try go_simp); (try with_reducible rfl)))
        (try simp only [Act.put, List.setIfInBounds_toArray, List.set_cons_zero, List.set_cons_succ, List.getElem_toArray, List.getElem_cons_succ, List.getElem_cons_zero])
        refine wpAnyH_take (i := 19) (v := ?v19_59) rfl (by kernel_rfl) (by kernel_rfl) (by kernel_rfl) (fun _ _ _ h => h) (Or.inl (And.intro (by kernel_rfl) ?q19_59)) hS0 ?r19_59; (case q19_59 => (intro w hx; (try dsimp only); (try go_simp); (try with_reducible rfl)))
        (try simp only [Act.put, List.setIfInBounds_toArray, List.set_cons_zero, List.set_cons_succ, List.getElem_toArray, List.getElem_cons_succ, List.getElem_cons_zero])
        refine wpAnyH_take (i := 20) (v := ?v20_60) rfl (by kernel_rfl) (by kernel_rfl) (by kernel_rfl) (fun _ _ _ h => h) (Or.inl (And.intro (by kernel_rfl) ?q20_60)) hS0 ?r20_60; (case q20_60 => (intro w hx; (try dsimp only); (try go_simp); (try with_reducible rfl)))
        (try simp only [Act.put, List.setIfInBounds_toArray, List.set_cons_zero, List.set_cons_succ, List.getElem_toArray, List.getElem_cons_succ, List.getElem_cons_zero])
        all_goals refine wpAnyH_done (by kernel_rfl) ?_ _
        go_wp2_with fail
        go_ret
        exact ⟨ret_bool (by rw [HV.out]; simp [y1, y2, y3]), bstep L2.out hS0⟩
  case false.true =>
    have hv2 := HV.out
    simp only [Bool.and_false, Bool.false_and, Bool.and_true, Bool.not_false, Bool.true_and] at hv2
    have HV := hide hv2
    clear hv2
    go_wp2_with fail
    cases z1 with
    | false =>
      refine wp_region_held_drew (S := fun W => Below w2.heap.size w2 W) (by kernel_rfl) (bb.drew) (fun hS0 => ?_)
      refine wpAnyH_take (i := 0) (v := ?v0_61) rfl (by kernel_rfl) (by kernel_rfl) (by kernel_rfl) (fun _ _ _ h => h) (Or.inl (And.intro (by kernel_rfl) ?q0_61)) hS0 ?r0_61; (case q0_61 => (intro w hx; (try dsimp only); (try go_simp); (try with_reducible rfl)))
      (try simp only [Act.put, List.setIfInBounds_toArray, List.set_cons_zero, List.set_cons_succ, List.getElem_toArray, List.getElem_cons_succ, List.getElem_cons_zero])
      refine wpAnyH_take (i := 1) (v := ?v1_62) rfl (by kernel_rfl) (by kernel_rfl) (by kernel_rfl) (fun _ _ _ h => h) (Or.inl (And.intro (by kernel_rfl) ?q1_62)) hS0 ?r1_62; (case q1_62 => (intro w hx; (try dsimp only); (try go_simp); (try with_reducible rfl)))
      (try simp only [Act.put, List.setIfInBounds_toArray, List.set_cons_zero, List.set_cons_succ, List.getElem_toArray, List.getElem_cons_succ, List.getElem_cons_zero])
      refine wpAnyH_take (i := 3) (v := ?v3_63) rfl (by kernel_rfl) (by kernel_rfl) (by kernel_rfl) (fun _ _ _ h => h) (Or.inl (And.intro (by kernel_rfl) ?q3_63)) hS0 ?r3_63; (case q3_63 => (intro w hx; (try dsimp only); (try go_simp); (try with_reducible rfl)))
      (try simp only [Act.put, List.setIfInBounds_toArray, List.set_cons_zero, List.set_cons_succ, List.getElem_toArray, List.getElem_cons_succ, List.getElem_cons_zero])
      refine wpAnyH_take (i := 4) (v := ?v4_64) rfl (by kernel_rfl) (by kernel_rfl) (by kernel_rfl) (fun _ _ _ h => h) (Or.inl (And.intro (by kernel_rfl) ?q4_64)) hS0 ?r4_64; (case q4_64 => (intro w hx; (try dsimp only); (try go_simp); (try with_reducible rfl)))
      (try simp only [Act.put, List.setIfInBounds_toArray, List.set_cons_zero, List.set_cons_succ, List.getElem_toArray, List.getElem_cons_succ, List.getElem_cons_zero])
      all_goals refine wpAnyH_ready (rs := [2]) (by kernel_rfl) (by simp) ?_
      all_goals refine AllReadyH.cons rfl (fun K hK => ?_) AllReadyH.nil
      all_goals (rw [if_pos (by kernel_rfl)]; (try simp only [List.getElem_toArray, List.getElem_cons_succ, List.getElem_cons_zero]); go_simp; ((with_reducible refine (CE.out _ (bstep L2.out hS0)).mono ?_); rintro e wq ⟨rfl, bq⟩); (try go_wp2_with fail); refine hK.out _ _ (by (first | with_reducible exact hS0 | exact bstep hS0 bq)) (fun hS0 => ?_); clear hK K; (try simp only [Act.put, List.setIfInBounds_toArray, List.set_cons_zero, List.set_cons_succ, List.getElem_toArray, List.getElem_cons_succ, List.getElem_cons_zero]))
      refine wpAnyH_take (i := 5) (v := ?v5_65) rfl (by kernel_rfl) (by kernel_rfl) (by kernel_rfl) (fun _ _ _ h => h) (Or.inl (And.intro (by kernel_rfl) ?q5_65)) hS0 ?r5_65; (case q5_65 => (intro w hx; (try dsimp only); (try go_simp); (try with_reducible rfl)))
      (try simp only [Act.put, List.setIfInBounds_toArray, List.set_cons_zero, List.set_cons_succ, List.getElem_toArray, List.getElem_cons_succ, List.getElem_cons_zero])
      refine wpAnyH_take (i := 6) (v := ?v6_66) rfl (by kernel_rfl) (by kernel_rfl) (by kernel_rfl) (fun _ _ _ h => h) (Or.inl (And.intro (by kernel_rfl) ?q6_66)) hS0 ?r6_66; (case q6_66 => (intro w hx; (try dsimp only); (try go_simp); (try with_reducible rfl)))
      (try simp only [Act.put, List.setIfInBounds_toArray, List.set_cons_zero, List.set_cons_succ, List.getElem_toArray, List.getElem_cons_succ, List.getElem_cons_zero])
      refine wpAnyH_take (i := 7) (v := undef) rfl (by kernel_rfl) (by kernel_rfl) (by kernel_rfl) (fun _ _ _ h => h) (Or.inr (And.intro (by kernel_rfl) rfl)) hS0 ?r7_67
      (try simp only [Act.put, List.setIfInBounds_toArray, List.set_cons_zero, List.set_cons_succ, List.getElem_toArray, List.getElem_cons_succ, List.getElem_cons_zero])
      refine wpAnyH_take (i := 8) (v := undef) rfl (by kernel_rfl) (by kernel_rfl) (by kernel_rfl) (fun _ _ _ h => h) (Or.inr (And.intro (by kernel_rfl) rfl)) hS0 ?r8_68
      (try simp only [Act.put, List.setIfInBounds_toArray, List.set_cons_zero, List.set_cons_succ, List.getElem_toArray, List.getElem_cons_succ, List.getElem_cons_zero])
      refine wpAnyH_take (i := 9) (v := undef) rfl (by kernel_rfl) (by kernel_rfl) (by kernel_rfl) (fun _ _ _ h => h) (Or.inr (And.intro (by kernel_rfl) rfl)) hS0 ?r9_69
      (try simp only [Act.put, List.setIfInBounds_toArray, List.set_cons_zero, List.set_cons_succ, List.getElem_toArray, List.getElem_cons_succ, List.getElem_cons_zero])
      refine wpAnyH_take (i := 10) (v := undef) rfl (by kernel_rfl) (by kernel_rfl) (by kernel_rfl) (fun _ _ _ h => h) (Or.inr (And.intro (by kernel_rfl) rfl)) hS0 ?r10_70
      (try simp only [Act.put, List.setIfInBounds_toArray, List.set_cons_zero, List.set_cons_succ, List.getElem_toArray, List.getElem_cons_succ, List.getElem_cons_zero])
      refine wpAnyH_take (i := 11) (v := undef) rfl (by kernel_rfl) (by kernel_rfl) (by kernel_rfl) (fun _ _ _ h => h) (Or.inr (And.intro (by kernel_rfl) rfl)) hS0 ?r11_71
      (try simp only [Act.put, List.setIfInBounds_toArray, List.set_cons_zero, List.set_cons_succ, List.getElem_toArray, List.getElem_cons_succ, List.getElem_cons_zero])
      refine wpAnyH_take (i := 12) (v := ?v12_72) rfl (by kernel_rfl) (by kernel_rfl) (by kernel_rfl) (fun _ _ _ h => h) (Or.inl (And.intro (by kernel_rfl) ?q12_72)) hS0 ?r12_72; (case q12_72 => (intro w hx; (try dsimp only); (try go_simp); (try with_reducible rfl)))
      (try simp only [Act.put, List.setIfInBounds_toArray, List.set_cons_zero, List.set_cons_succ, List.getElem_toArray, List.getElem_cons_succ, List.getElem_cons_zero])
      refine wpAnyH_take (i := 13) (v := ?v13_73) rfl (by kernel_rfl) (by kernel_rfl) (by kernel_rfl) (fun _ _ _ h => h) (Or.inl (And.intro (by kernel_rfl) ?q13_73)) hS0 ?r13_73; (case q13_73 => (intro w hx; (try dsimp only); (try go_simp); (try with_reducible rfl)))
      (try simp only [Act.put, List.setIfInBounds_toArray, List.set_cons_zero, List.set_cons_succ, List.getElem_toArray, List.getElem_cons_succ, List.getElem_cons_zero])
      refine wpAnyH_take (i := 14) (v := undef) rfl (by kernel_rfl) (by kernel_rfl) (by kernel_rfl) (fun _ _ _ h => h) (Or.inr (And.intro (by kernel_rfl) rfl)) hS0 ?r14_74
      (try simp only [Act.put, List.setIfInBounds_toArray, List.set_cons_zero, List.set_cons_succ, List.getElem_toArray, List.getElem_cons_succ, List.getElem_cons_zero])
      refine wpAnyH_take (i := 15) (v := undef) rfl (by kernel_rfl) (by kernel_rfl) (by kernel_rfl) (fun _ _ _ h => h) (Or.inr (And.intro (by kernel_rfl) rfl)) hS0 ?r15_75
      (try simp only [Act.put, List.setIfInBounds_toArray, List.set_cons_zero, List.set_cons_succ, List.getElem_toArray, List.getElem_cons_succ, List.getElem_cons_zero])
      refine wpAnyH_take (i := 16) (v := undef) rfl (by kernel_rfl) (by kernel_rfl) (by kernel_rfl) (fun _ _ _ h => h) (Or.inr (And.intro (by kernel_rfl) rfl)) hS0 ?r16_76
      (try simp only [Act.put, List.setIfInBounds_toArray, List.set_cons_zero, List.set_cons_succ, List.getElem_toArray, List.getElem_cons_succ, List.getElem_cons_zero])
      refine wpAnyH_take (i := 17) (v := undef) rfl (by kernel_rfl) (by kernel_rfl) (by kernel_rfl) (fun _ _ _ h => h) (Or.inr (And.intro (by kernel_rfl) rfl)) hS0 ?r17_77
      (try simp only [Act.put, List.setIfInBounds_toArray, List.set_cons_zero, List.set_cons_succ, List.getElem_toArray, List.getElem_cons_succ, List.getElem_cons_zero])
      refine wpAnyH_take (i := 18) (v := undef) rfl (by kernel_rfl) (by kernel_rfl) (by kernel_rfl) (fun _ _ _ h => h) (Or.inr (And.intro (by kernel_rfl) rfl)) hS0 ?r18_78
      (try simp only [Act.put, List.setIfInBounds_toArray, List.set_cons_zero, List.set_cons_succ, List.getElem_toArray, List.getElem_cons_succ, List.getElem_cons_zero])
      refine wpAnyH_take (i := 19) (v := ?v19_79) rfl (by kernel_rfl) (by kernel_rfl) (by kernel_rfl) (fun _ _ _ h => h) (Or.inl (And.intro (by kernel_rfl) ?q19_79)) hS0 ?r19_79; (case q19_79 => (intro w hx; (try dsimp only); (try go_simp); (try with_reducible rfl)))
      (try simp only [Act.put, List.setIfInBounds_toArray, List.set_cons_zero, List.set_cons_succ, List.getElem_toArray, List.getElem_cons_succ, List.getElem_cons_zero])
      refine wpAnyH_take (i := 20) (v := ?v20_80) rfl (by kernel_rfl) (by kernel_rfl) (by kernel_rfl) (fun _ _ _ h => h) (Or.inl (And.intro (by kernel_rfl) ?q20_80)) hS0 ?r20_80; (case q20_80 => (intro w hx; (try dsimp only); (try go_simp); (try with_reducible rfl)))
      (try simp only [Act.put, List.setIfInBounds_toArray, List.set_cons_zero, List.set_cons_succ, List.getElem_toArray, List.getElem_cons_succ, List.getElem_cons_zero])
      all_goals refine wpAnyH_done (by kernel_rfl) ?_ _
      go_wp2_with fail
      go_ret
      exact ⟨ret_bool (by rw [HV.out]; simp [y1, y2, y3]), bstep L2.out hS0⟩
    | true =>
      cases z2 with
      | false =>
        refine wp_region_held_drew (S := fun W => Below w2.heap.size w2 W) (by kernel_rfl) (bb.drew) (fun hS0 => ?_)
        refine wpAnyH_take (i := 0) (v := ?v0_81) rfl (by kernel_rfl) (by kernel_rfl) (by kernel_rfl) (fun _ _ _ h => h) (Or.inl (And.intro (by kernel_rfl) ?q0_81)) hS0 ?r0_81; (case q0_81 => (intro w hx; (try dsimp only); (try go_simp); (try with_reducible rfl)))
        (try simp only [Act.put, List.setIfInBounds_toArray, List.set_cons_zero, List.set_cons_succ, List.getElem_toArray, List.getElem_cons_succ, List.getElem_cons_zero])
        refine wpAnyH_take (i := 1) (v := ?v1_82) rfl (by kernel_rfl) (by kernel_rfl) (by kernel_rfl) (fun _ _ _ h => h) (Or.inl (And.intro (by kernel_rfl) ?q1_82)) hS0 ?r1_82; (case q1_82 => (intro w hx; (try dsimp only); (try go_simp); (try with_reducible rfl)))
        (try simp only [Act.put, List.setIfInBounds_toArray, List.set_cons_zero, List.set_cons_succ, List.getElem_toArray, List.getElem_cons_succ, List.getElem_cons_zero])
        refine wpAnyH_take (i := 3) (v := ?v3_83) rfl (by kernel_rfl) (by kernel_rfl) (by kernel_rfl) (fun _ _ _ h => h) (Or.inl (And.intro (by kernel_rfl) ?q3_83)) hS0 ?r3_83; (case q3_83 => (intro w hx; (try dsimp only); (try go_simp); (try with_reducible rfl)))
        (try simp only [Act.put, List.setIfInBounds_toArray, List.set_cons_zero, List.set_cons_succ, List.getElem_toArray, List.getElem_cons_succ, List.getElem_cons_zero])
        refine wpAnyH_take (i := 4) (v := ?v4_84) rfl (by kernel_rfl) (by kernel_rfl) (by kernel_rfl) (fun _ _ _ h => h) (Or.inl (And.intro (by kernel_rfl) ?q4_84)) hS0 ?r4_84; (case q4_84 => (intro w hx; (try dsimp only); (try go_simp); (try with_reducible rfl)))
        (try simp only [Act.put, List.setIfInBounds_toArray, List.set_cons_zero, List.set_cons_succ, List.getElem_toArray, List.getElem_cons_succ, List.getElem_cons_zero])
        all_goals refine wpAnyH_ready (rs := [2]) (by kernel_rfl) (by simp) ?_
        all_goals refine AllReadyH.cons rfl (fun K hK => ?_) AllReadyH.nil
        all_goals (rw [if_pos (by kernel_rfl)]; (try simp only [List.getElem_toArray, List.getElem_cons_succ, List.getElem_cons_zero]); go_simp; ((with_reducible refine (CE.out _ (bstep L2.out hS0)).mono ?_); rintro e wq ⟨rfl, bq⟩); (try go_wp2_with fail); refine hK.out _ _ (by (first | with_reducible exact hS0 | exact bstep hS0 bq)) (fun hS0 => ?_); clear hK K; (try simp only [Act.put, List.setIfInBounds_toArray, List.set_cons_zero, List.set_cons_succ, List.getElem_toArray, List.getElem_cons_succ, List.getElem_cons_zero]))
        refine wpAnyH_take (i := 5) (v := ?v5_85) rfl (by kernel_rfl) (by kernel_rfl) (by kernel_rfl) (fun _ _ _ h => h) (Or.inl (And.intro (by kernel_rfl) ?q5_85)) hS0 ?r5_85; (case q5_85 => (intro w hx; (try dsimp only); (try go_simp); (try with_reducible rfl)))
        (try simp only [Act.put, List.setIfInBounds_toArray, List.set_cons_zero, List.set_cons_succ, List.getElem_toArray, List.getElem_cons_succ, List.getElem_cons_zero])
        refine wpAnyH_take (i := 6) (v := ?v6_86) rfl (by kernel_rfl) (by kernel_rfl) (by kernel_rfl) (fun _ _ _ h => h) (Or.inl (And.intro (by kernel_rfl) ?q6_86)) hS0 ?r6_86; (case q6_86 => (intro w hx; (try dsimp only); (try go_simp); (try with_reducible rfl)))
        (try simp only [Act.put, List.setIfInBounds_toArray, List.set_cons_zero, List.set_cons_succ, List.getElem_toArray, List.getElem_cons_succ, List.getElem_cons_zero])
        refine wpAnyH_take (i := 7) (v := ?v7_87) rfl (by kernel_rfl) (by kernel_rfl) (by kernel_rfl) (fun _ _ _ h => h) (Or.inl (And.intro (by kernel_rfl) ?q7_87)) hS0 ?r7_87; (case q7_87 => (intro w hx; (try dsimp only); (try go_simp); (try with_reducible rfl)))
        (try simp only [Act.put, List.setIfInBounds_toArray, List.set_cons_zero, List.set_cons_succ, List.getElem_toArray, List.getElem_cons_succ, List.getElem_cons_zero])
        refine wpAnyH_take (i := 8) (v := ?v8_88) rfl (by kernel_rfl) (by kernel_rfl) (by kernel_rfl) (fun _ _ _ h => h) (Or.inl (And.intro (by kernel_rfl) ?q8_88)) hS0 ?r8_88; (case q8_88 => (intro w hx; (try dsimp only); (try go_simp); (try with_reducible rfl)))
        (try simp only [Act.put, List.setIfInBounds_toArray, List.set_cons_zero, List.set_cons_succ, List.getElem_toArray, List.getElem_cons_succ, List.getElem_cons_zero])
        refine wpAnyH_take (i := 9) (v := ?v9_89) rfl (by kernel_rfl) (by kernel_rfl) (by kernel_rfl) (fun _ _ _ h => h) (Or.inl (And.intro (by kernel_rfl) ?q9_89)) hS0 ?r9_89; (case q9_89 => (intro w hx; (try dsimp only); (try go_simp); (try with_reducible rfl)))
        (try simp only [Act.put, List.setIfInBounds_toArray, List.set_cons_zero, List.set_cons_succ, List.getElem_toArray, List.getElem_cons_succ, List.getElem_cons_zero])
        refine wpAnyH_take (i := 10) (v := ?v10_90) rfl (by kernel_rfl) (by kernel_rfl) (by kernel_rfl) (fun _ _ _ h => h) (Or.inl (And.intro (by kernel_rfl) ?q10_90)) hS0 ?r10_90; (case q10_90 => (intro w hx; (try dsimp only); (try go_simp); (try with_reducible rfl)))
        (try simp only [Act.put, List.setIfInBounds_toArray, List.set_cons_zero, List.set_cons_succ, List.getElem_toArray, List.getElem_cons_succ, List.getElem_cons_zero])
        refine wpAnyH_take (i := 11) (v := ?v11_91) rfl (by kernel_rfl) (by kernel_rfl) (by kernel_rfl) (fun _ _ _ h => h) (Or.inl (And.intro (by kernel_rfl) ?q11_91)) hS0 ?r11_91; (case q11_91 => (intro w hx; (try dsimp only); (try go_simp); (try with_reducible rfl)))
        (try simp only [Act.put, List.setIfInBounds_toArray, List.set_cons_zero, List.set_cons_succ, List.getElem_toArray, List.getElem_cons_succ, List.getElem_cons_zero])
        refine wpAnyH_take (i := 12) (v := ?v12_92) rfl (by kernel_rfl) (by kernel_rfl) (by kernel_rfl) (fun _ _ _ h => h) (Or.inl (And.intro (by kernel_rfl) ?q12_92)) hS0 ?r12_92; (case q12_92 => (intro w hx; (try dsimp only); (try go_simp); (try with_reducible rfl)))
        (try simp only [Act.put, List.setIfInBounds_toArray, List.set_cons_zero, List.set_cons_succ, List.getElem_toArray, List.getElem_cons_succ, List.getElem_cons_zero])
        refine wpAnyH_take (i := 13) (v := ?v13_93) rfl (by kernel_rfl) (by kernel_rfl) (by kernel_rfl) (fun _ _ _ h => h) (Or.inl (And.intro (by kernel_rfl) ?q13_93)) hS0 ?r13_93; (case q13_93 => (intro w hx; (try dsimp only); (try go_simp); (try with_reducible rfl)))
        (try simp only [Act.put, List.setIfInBounds_toArray, List.set_cons_zero, List.set_cons_succ, List.getElem_toArray, List.getElem_cons_succ, List.getElem_cons_zero])
        refine wpAnyH_take (i := 14) (v := undef) rfl (by kernel_rfl) (by kernel_rfl) (by kernel_rfl) (fun _ _ _ h => h) (Or.inr (And.intro (by kernel_rfl) rfl)) hS0 ?r14_94
        (try simp only [Act.put, List.setIfInBounds_toArray, List.set_cons_zero, List.set_cons_succ, List.getElem_toArray, List.getElem_cons_succ, List.getElem_cons_zero])
        refine wpAnyH_take (i := 15) (v := undef) rfl (by kernel_rfl) (by kernel_rfl) (by kernel_rfl) (fun _ _ _ h => h) (Or.inr (And.intro (by kernel_rfl) rfl)) hS0 ?r15_95
        (try simp only [Act.put, List.setIfInBounds_toArray, List.set_cons_zero, List.set_cons_succ, List.getElem_toArray, List.getElem_cons_succ, List.getElem_cons_zero])
        refine wpAnyH_take (i := 16) (v := undef) rfl (by kernel_rfl) (by kernel_rfl) (by kernel_rfl) (fun _ _ _ h => h) (Or.inr (And.intro (by kernel_rfl) rfl)) hS0 ?r16_96
        (try simp only [Act.put, List.setIfInBounds_toArray, List.set_cons_zero, List.set_cons_succ, List.getElem_toArray, List.getElem_cons_succ, List.getElem_cons_zero])
        refine wpAnyH_take (i := 17) (v := undef) rfl (by kernel_rfl) (by kernel_rfl) (by kernel_rfl) (fun _ _ _ h => h) (Or.inr (And.intro (by kernel_rfl) rfl)) hS0 ?r17_97
        (try simp only [Act.put, List.setIfInBounds_toArray, List.set_cons_zero, List.set_cons_succ, List.getElem_toArray, List.getElem_cons_succ, List.getElem_cons_zero])
        refine wpAnyH_take (i := 18) (v := undef) rfl (by kernel_rfl) (by kernel_rfl) (by kernel_rfl) (fun _ _ _ h => h) (Or.inr (And.intro (by kernel_rfl) rfl)) hS0 ?r18_98
        (try simp only [Act.put, List.setIfInBounds_toArray, List.set_cons_zero, List.set_cons_succ, List.getElem_toArray, List.getElem_cons_succ, List.getElem_cons_zero])
        refine wpAnyH_take (i := 19) (v := ?v19_99) rfl (by kernel_rfl) (by kernel_rfl) (by kernel_rfl) (fun _ _ _ h => h) (Or.inl (And.intro (by kernel_rfl) ?q19_99)) hS0 ?r19_99; (case q19_99 => (intro w hx; (try dsimp only); (try go_simp); (try with_reducible rfl)))
        (try simp only [Act.put, List.setIfInBounds_toArray, List.set_cons_zero, List.set_cons_succ, List.getElem_toArray, List.getElem_cons_succ, List.getElem_cons_zero])
        refine wpAnyH_take (i := 20) (v := ?v20_100) rfl (by kernel_rfl) (by kernel_rfl) (by kernel_rfl) (fun _ _ _ h => h) (Or.inl (And.intro (by kernel_rfl) ?q20_100)) hS0 ?r20_100; (case q20_100 => (intro w hx; (try dsimp only); (try go_simp); (try with_reducible rfl)))
        (try simp only [Act.put, List.setIfInBounds_toArray, List.set_cons_zero, List.set_cons_succ, List.getElem_toArray, List.getElem_cons_succ, List.getElem_cons_zero])
        all_goals refine wpAnyH_done (by kernel_rfl) ?_ _
        go_wp2_with fail
        go_ret
        exact ⟨ret_bool (by rw [HV.out]; simp [y1, y2, y3]), bstep L2.out hS0⟩
      | true =>
        refine wp_region_held_drew (S := fun W => Below w2.heap.size w2 W) (by kernel_rfl) (bb.drew) (fun hS0 => ?_)
        refine wpAnyH_take (i := 0) (v := ?v0_101) rfl (by kernel_rfl) (by kernel_rfl) (by kernel_rfl) (fun _ _ _ h => h) (Or.inl (And.intro (by kernel_rfl) ?q0_101)) hS0 ?r0_101; (case q0_101 => (intro w hx; (try dsimp only); (try go_simp); (try with_reducible rfl)))
        (try simp only [Act.put, List.setIfInBounds_toArray, List.set_cons_zero, List.set_cons_succ, List.getElem_toArray, List.getElem_cons_succ, List.getElem_cons_zero])
        refine wpAnyH_take (i := 1) (v := ?v1_102) rfl (by kernel_rfl) (by kernel_rfl) (by kernel_rfl) (fun _ _ _ h => h) (Or.inl (And.intro (by kernel_rfl) ?q1_102)) hS0 ?r1_102; (case q1_102 => (intro w hx; (try dsimp only); (try go_simp); (try with_reducible rfl)))
        (try simp only [Act.put, List.setIfInBounds_toArray, List.set_cons_zero, List.set_cons_succ, List.getElem_toArray, List.getElem_cons_succ, List.getElem_cons_zero])
        refine wpAnyH_take (i := 3) (v := ?v3_103) rfl (by kernel_rfl) (by kernel_rfl) (by kernel_rfl) (fun _ _ _ h => h) (Or.inl (And.intro (by kernel_rfl) ?q3_103)) hS0 ?r3_103; (case q3_103 => (intro w hx; (try dsimp only); (try go_simp); (try with_reducible rfl)))
        (try simp only [Act.put, List.setIfInBounds_toArray, List.set_cons_zero, List.set_cons_succ, List.getElem_toArray, List.getElem_cons_succ, List.getElem_cons_zero])
        refine wpAnyH_take (i := 4) (v := ?v4_104) rfl (by kernel_rfl) (by kernel_rfl) (by kernel_rfl) (fun _ _ _ h => h) (Or.inl (And.intro (by kernel_rfl) ?q4_104)) hS0 ?r4_104; (case q4_104 => (intro w hx; (try dsimp only); (try go_simp); (try with_reducible rfl)))
        (try simp only [Act.put, List.setIfInBounds_toArray, List.set_cons_zero, List.set_cons_succ, List.getElem_toArray, List.getElem_cons_succ, List.getElem_cons_zero])
        all_goals refine wpAnyH_ready (rs := [2]) (by kernel_rfl) (by simp) ?_
        all_goals refine AllReadyH.cons rfl (fun K hK => ?_) AllReadyH.nil
        all_goals (rw [if_pos (by kernel_rfl)]; (try simp only [List.getElem_toArray, List.getElem_cons_succ, List.getElem_cons_zero]); go_simp; ((with_reducible refine (CE.out _ (bstep L2.out hS0)).mono ?_); rintro e wq ⟨rfl, bq⟩); (try go_wp2_with fail); refine hK.out _ _ (by (first | with_reducible exact hS0 | exact bstep hS0 bq)) (fun hS0 => ?_); clear hK K; (try simp only [Act.put, List.setIfInBounds_toArray, List.set_cons_zero, List.set_cons_succ, List.getElem_toArray, List.getElem_cons_succ, List.getElem_cons_zero]))
        refine wpAnyH_take (i := 5) (v := ?v5_105) rfl (by kernel_rfl) (by kernel_rfl) (by kernel_rfl) (fun _ _ _ h => h) (Or.inl (And.intro (by kernel_rfl) ?q5_105)) hS0 ?r5_105; (case q5_105 => (intro w hx; (try dsimp only); (try go_simp); (try with_reducible rfl)))
        (try simp only [Act.put, List.setIfInBounds_toArray, List.set_cons_zero, List.set_cons_succ, List.getElem_toArray, List.getElem_cons_succ, List.getElem_cons_zero])
        refine wpAnyH_take (i := 6) (v := ?v6_106) rfl (by kernel_rfl) (by kernel_rfl) (by kernel_rfl) (fun _ _ _ h => h) (Or.inl (And.intro (by kernel_rfl) ?q6_106)) hS0 ?r6_106; (case q6_106 => (intro w hx; (try dsimp only); (try go_simp); (try with_reducible rfl)))
        (try simp only [Act.put, List.setIfInBounds_toArray, List.set_cons_zero, List.set_cons_succ, List.getElem_toArray, List.getElem_cons_succ, List.getElem_cons_zero])
        refine wpAnyH_take (i := 7) (v := ?v7_107) rfl (by kernel_rfl) (by kernel_rfl) (by kernel_rfl) (fun _ _ _ h => h) (Or.inl (And.intro (by kernel_rfl) ?q7_107)) hS0 ?r7_107; (case q7_107 => (intro w hx; (try dsimp only); (try go_simp); (try with_reducible rfl)))
        (try simp only [Act.put, List.setIfInBounds_toArray, List.set_cons_zero, List.set_cons_succ, List.getElem_toArray, List.getElem_cons_succ, List.getElem_cons_zero])
        refine wpAnyH_take (i := 8) (v := ?v8_108) rfl (by kernel_rfl) (by kernel_rfl) (by kernel_rfl) (fun _ _ _ h => h) (Or.inl (And.intro (by kernel_rfl) ?q8_108)) hS0 ?r8_108; (case q8_108 => (intro w hx; (try dsimp only); (try go_simp); (try with_reducible rfl)))
        (try simp only [Act.put, List.setIfInBounds_toArray, List.set_cons_zero, List.set_cons_succ, List.getElem_toArray, List.getElem_cons_succ, List.getElem_cons_zero])
        refine wpAnyH_take (i := 9) (v := ?v9_109) rfl (by kernel_rfl) (by kernel_rfl) (by kernel_rfl) (fun _ _ _ h => h) (Or.inl (And.intro (by kernel_rfl) ?q9_109)) hS0 ?r9_109; (case q9_109 => (intro w hx; (try dsimp only); (try go_simp); (try with_reducible rfl)))
        (try simp only [Act.put, List.setIfInBounds_toArray, List.set_cons_zero, List.set_cons_succ, List.getElem_toArray, List.getElem_cons_succ, List.getElem_cons_zero])
        refine wpAnyH_take (i := 10) (v := ?v10_110) rfl (by kernel_rfl) (by kernel_rfl) (by kernel_rfl) (fun _ _ _ h => h) (Or.inl (And.intro (by kernel_rfl) ?q10_110)) hS0 ?r10_110; (case q10_110 => (intro w hx; (try dsimp only); (try go_simp); (try with_reducible rfl)))
        (try simp only [Act.put, List.setIfInBounds_toArray, List.set_cons_zero, List.set_cons_succ, List.getElem_toArray, List.getElem_cons_succ, List.getElem_cons_zero])
        refine wpAnyH_take (i := 11) (v := ?v11_111) rfl (by kernel_rfl) (by kernel_rfl) (by kernel_rfl) (fun _ _ _ h => h) (Or.inl (And.intro (by kernel_rfl) ?q11_111)) hS0 ?r11_111; (case q11_111 => (intro w hx; (try dsimp only); (try go_simp); (try with_reducible rfl)))
        (try simp only [Act.put, List.setIfInBounds_toArray, List.set_cons_zero, List.set_cons_succ, List.getElem_toArray, List.getElem_cons_succ, List.getElem_cons_zero])
        refine wpAnyH_take (i := 12) (v := ?v12_112) rfl (by kernel_rfl) (by kernel_rfl) (by kernel_rfl) (fun _ _ _ h => h) (Or.inl (And.intro (by kernel_rfl) ?q12_112)) hS0 ?r12_112; (case q12_112 => (intro w hx; (try dsimp only); (try go_simp); (try with_reducible rfl)))
        (try simp only [Act.put, List.setIfInBounds_toArray, List.set_cons_zero, List.set_cons_succ, List.getElem_toArray, List.getElem_cons_succ, List.getElem_cons_zero])
        refine wpAnyH_take (i := 13) (v := ?v13_113) rfl (by kernel_rfl) (by kernel_rfl) (by kernel_rfl) (fun _ _ _ h => h) (Or.inl (And.intro (by kernel_rfl) ?q13_113)) hS0 ?r13_113; (case q13_113 => (intro w hx; (try dsimp only); (try go_simp); (try with_reducible rfl)))
        (try simp only [Act.put, List.setIfInBounds_toArray, List.set_cons_zero, List.set_cons_succ, List.getElem_toArray, List.getElem_cons_succ, List.getElem_cons_zero])
        refine wpAnyH_take (i := 14) (v := ?v14_114) rfl (by kernel_rfl) (by kernel_rfl) (by kernel_rfl) (fun _ _ _ h => h) (Or.inl (And.intro (by kernel_rfl) ?q14_114)) hS0 ?r14_114; (case q14_114 => (intro w hx; (try dsimp only); (try go_simp); (try with_reducible rfl)))
        (try simp only [Act.put, List.setIfInBounds_toArray, List.set_cons_zero, List.set_cons_succ, List.getElem_toArray, List.getElem_cons_succ, List.getElem_cons_zero])
        refine wpAnyH_take (i := 15) (v := ?v15_115) rfl (by kernel_rfl) (by kernel_rfl) (by kernel_rfl) (fun _ _ _ h => h) (Or.inl (And.intro (by kernel_rfl) ?q15_115)) hS0 ?r15_115; (case q15_115 => (intro w hx; (try dsimp only); (try go_simp); (try with_reducible rfl)))
        (try simp only [Act.put, List.setIfInBounds_toArray, List.set_cons_zero, List.set_cons_succ, List.getElem_toArray, List.getElem_cons_succ, List.getElem_cons_zero])
        refine wpAnyH_take (i := 16) (v := ?v16_116) rfl (by kernel_rfl) (by kernel_rfl) (by kernel_rfl) (fun _ _ _ h => h) (Or.inl (And.intro (by kernel_rfl) ?q16_116)) hS0 ?r16_116; (case q16_116 => (intro w hx; (try dsimp only); (try go_simp); (try with_reducible rfl)))
        (try simp only [Act.put, List.setIfInBounds_toArray, List.set_cons_zero, List.set_cons_succ, List.getElem_toArray, List.getElem_cons_succ, List.getElem_cons_zero])
        refine wpAnyH_take (i := 17) (v := ?v17_117) rfl (by kernel_rfl) (by kernel_rfl) (by kernel_rfl) (fun _ _ _ h => h) (Or.inl (And.intro (by kernel_rfl) ?q17_117)) hS0 ?r17_117; (case q17_117 => (intro w hx; (try dsimp only); (try go_simp); (try with_reducible rfl)))
        (try simp only [Act.put, List.setIfInBounds_toArray, List.set_cons_zero, List.set_cons_succ, List.getElem_toArray, List.getElem_cons_succ, List.getElem_cons_zero])
        refine wpAnyH_take (i := 18) (v := ?v18_118) rfl (by kernel_rfl) (by kernel_rfl) (by kernel_rfl) (fun _ _ _ h => h) (Or.inl (And.intro (by kernel_rfl) ?q18_118)) hS0 ?r18_118; (case q18_118 => (intro w hx; (try dsimp only); (try go_simp); (try with_reducible rfl)))
        (try simp only [Act.put, List.setIfInBounds_toArray, List.set_cons_zero, List.set_cons_succ, List.getElem_toArray, List.getElem_cons_succ, List.getElem_cons_zero])
        refine wpAnyH_take (i := 19) (v := ?v19_119) rfl (by kernel_rfl) (by kernel_rfl) (by kernel_rfl) (fun _ _ _ h => h) (Or.inl (And.intro (by kernel_rfl) ?q19_119)) hS0 ?r19_119; (case q19_119 => (intro w hx; (try dsimp only); (try go_simp); (try with_reducible rfl)))
        (try simp only [Act.put, List.setIfInBounds_toArray, List.set_cons_zero, List.set_cons_succ, List.getElem_toArray, List.getElem_cons_succ, List.getElem_cons_zero])
        refine wpAnyH_take (i := 20) (v := ?v20_120) rfl (by kernel_rfl) (by kernel_rfl) (by kernel_rfl) (fun _ _ _ h => h) (Or.inl (And.intro (by kernel_rfl) ?q20_120)) hS0 ?r20_120; (case q20_120 => (intro w hx; (try dsimp only); (try go_simp); (try with_reducible rfl)))
        (try simp only [Act.put, List.setIfInBounds_toArray, List.set_cons_zero, List.set_cons_succ, List.getElem_toArray, List.getElem_cons_succ, List.getElem_cons_zero])
        all_goals refine wpAnyH_done (by kernel_rfl) ?_ _
        go_wp2_with fail
        go_ret
        exact ⟨ret_bool (by rw [HV.out]; simp [y1, y2, y3]), bstep L2.out hS0⟩
  case false.false =>
    have hv2 := HV.out
    simp only [Bool.and_false, Bool.false_and, Bool.and_true, Bool.not_false, Bool.true_and] at hv2
    have HV := hide hv2
    clear hv2
    go_wp2_with fail
    cases z1 with
    | false =>
      refine wp_region_held_drew (S := fun W => Below w2.heap.size w2 W) (by kernel_rfl) (bb.drew) (fun hS0 => ?_)
      refine wpAnyH_take (i := 0) (v := ?v0_121) rfl (by kernel_rfl) (by kernel_rfl) (by kernel_rfl) (fun _ _ _ h => h) (Or.inl (And.intro (by kernel_rfl) ?q0_121)) hS0 ?r0_121; (case q0_121 => (intro w hx; (try dsimp only); (try go_simp); (try with_reducible rfl)))
      (try simp only [Act.put, List.setIfInBounds_toArray, List.set_cons_zero, List.set_cons_succ, List.getElem_toArray, List.getElem_cons_succ, List.getElem_cons_zero])
      refine wpAnyH_take (i := 1) (v := ?v1_122) rfl (by kernel_rfl) (by kernel_rfl) (by kernel_rfl) (fun _ _ _ h => h) (Or.inl (And.intro (by kernel_rfl) ?q1_122)) hS0 ?r1_122; (case q1_122 => (intro w hx; (try dsimp only); (try go_simp); (try with_reducible rfl)))
      (try simp only [Act.put, List.setIfInBounds_toArray, List.set_cons_zero, List.set_cons_succ, List.getElem_toArray, List.getElem_cons_succ, List.getElem_cons_zero])
      refine wpAnyH_take (i := 3) (v := ?v3_123) rfl (by kernel_rfl) (by kernel_rfl) (by kernel_rfl) (fun _ _ _ h => h) (Or.inl (And.intro (by kernel_rfl) ?q3_123)) hS0 ?r3_123; (case q3_123 => (intro w hx; (try dsimp only); (try go_simp); (try with_reducible rfl)))
      (try simp only [Act.put, List.setIfInBounds_toArray, List.set_cons_zero, List.set_cons_succ, List.getElem_toArray, List.getElem_cons_succ, List.getElem_cons_zero])
      refine wpAnyH_take (i := 4) (v := ?v4_124) rfl (by kernel_rfl) (by kernel_rfl) (by kernel_rfl) (fun _ _ _ h => h) (Or.inl (And.intro (by kernel_rfl) ?q4_124)) hS0 ?r4_124; (case q4_124 => (intro w hx; (try dsimp only); (try go_simp); (try with_reducible rfl)))
      (try simp only [Act.put, List.setIfInBounds_toArray, List.set_cons_zero, List.set_cons_succ, List.getElem_toArray, List.getElem_cons_succ, List.getElem_cons_zero])
      all_goals refine wpAnyH_ready (rs := [2]) (by kernel_rfl) (by simp) ?_
      all_goals refine AllReadyH.cons rfl (fun K hK => ?_) AllReadyH.nil
      all_goals (rw [if_pos (by kernel_rfl)]; (try simp only [List.getElem_toArray, List.getElem_cons_succ, List.getElem_cons_zero]); go_simp; ((with_reducible refine (CE.out _ (bstep L2.out hS0)).mono ?_); rintro e wq ⟨rfl, bq⟩); (try go_wp2_with fail); refine hK.out _ _ (by (first | with_reducible exact hS0 | exact bstep hS0 bq)) (fun hS0 => ?_); clear hK K; (try simp only [Act.put, List.setIfInBounds_toArray, List.set_cons_zero, List.set_cons_succ, List.getElem_toArray, List.getElem_cons_succ, List.getElem_cons_zero]))
      refine wpAnyH_take (i := 5) (v := ?v5_125) rfl (by kernel_rfl) (by kernel_rfl) (by kernel_rfl) (fun _ _ _ h => h) (Or.inl (And.intro (by kernel_rfl) ?q5_125)) hS0 ?r5_125; (case q5_125 => (intro w hx; (try dsimp only); (try go_simp); (try with_reducible rfl)))
      (try simp only [Act.put, List.setIfInBounds_toArray, List.set_cons_zero, List.set_cons_succ, List.getElem_toArray, List.getElem_cons_succ, List.getElem_cons_zero])
      refine wpAnyH_take (i := 6) (v := ?v6_126) rfl (by kernel_rfl) (by kernel_rfl) (by kernel_rfl) (fun _ _ _ h => h) (Or.inl (And.intro (by kernel_rfl) ?q6_126)) hS0 ?r6_126; (case q6_126 => (intro w hx; (try dsimp only); (try go_simp); (try with_reducible rfl)))
      (try simp only [Act.put, List.setIfInBounds_toArray, List.set_cons_zero, List.set_cons_succ, List.getElem_toArray, List.getElem_cons_succ, List.getElem_cons_zero])
      refine wpAnyH_take (i := 7) (v := undef) rfl (by kernel_rfl) (by kernel_rfl) (by kernel_rfl) (fun _ _ _ h => h) (Or.inr (And.intro (by kernel_rfl) rfl)) hS0 ?r7_127
      (try simp only [Act.put, List.setIfInBounds_toArray, List.set_cons_zero, List.set_cons_succ, List.getElem_toArray, List.getElem_cons_succ, List.getElem_cons_zero])
      refine wpAnyH_take (i := 8) (v := undef) rfl (by kernel_rfl) (by kernel_rfl) (by kernel_rfl) (fun _ _ _ h => h) (Or.inr (And.intro (by kernel_rfl) rfl)) hS0 ?r8_128
      (try simp only [Act.put, List.setIfInBounds_toArray, List.set_cons_zero, List.set_cons_succ, List.getElem_toArray, List.getElem_cons_succ, List.getElem_cons_zero])
      refine wpAnyH_take (i := 9) (v := undef) rfl (by kernel_rfl) (by kernel_rfl) (by kernel_rfl) (fun _ _ _ h => h) (Or.inr (And.intro (by kernel_rfl) rfl)) hS0 ?r9_129
      (try simp only [Act.put, List.setIfInBounds_toArray, List.set_cons_zero, List.set_cons_succ, List.getElem_toArray, List.getElem_cons_succ, List.getElem_cons_zero])
      refine wpAnyH_take (i := 10) (v := undef) rfl (by kernel_rfl) (by kernel_rfl) (by kernel_rfl) (fun _ _ _ h => h) (Or.inr (And.intro (by kernel_rfl) rfl)) hS0 ?r10_130
      (try simp only [Act.put, List.setIfInBounds_toArray, List.set_cons_zero, List.set_cons_succ, List.getElem_toArray, List.getElem_cons_succ, List.getElem_cons_zero])
      refine wpAnyH_take (i := 11) (v := undef) rfl (by kernel_rfl) (by kernel_rfl) (by kernel_rfl) (fun _ _ _ h => h) (Or.inr (And.intro (by kernel_rfl) rfl)) hS0 ?r11_131
      (try simp only [Act.put, List.setIfInBounds_toArray, List.set_cons_zero, List.set_cons_succ, List.getElem_toArray, List.getElem_cons_succ, List.getElem_cons_zero])
      refine wpAnyH_take (i := 12) (v := ?v12_132) rfl (by kernel_rfl) (by kernel_rfl) (by kernel_rfl) (fun _ _ _ h => h) (Or.inl (And.intro (by kernel_rfl) ?q12_132)) hS0 ?r12_132; (case q12_132 => (intro w hx; (try dsimp only); (try go_simp); (try with_reducible rfl)))
      (try simp only [Act.put, List.setIfInBounds_toArray, List.set_cons_zero, List.set_cons_succ, List.getElem_toArray, List.getElem_cons_succ, List.getElem_cons_zero])
      refine wpAnyH_take (i := 13) (v := ?v13_133) rfl (by kernel_rfl) (by kernel_rfl) (by kernel_rfl) (fun _ _ _ h => h) (Or.inl (And.intro (by kernel_rfl) ?q13_133)) hS0 ?r13_133; (case q13_133 => (intro w hx; (try dsimp only); (try go_simp); (try with_reducible rfl)))
      (try simp only [Act.put, List.setIfInBounds_toArray, List.set_cons_zero, List.set_cons_succ, List.getElem_toArray, List.getElem_cons_succ, List.getElem_cons_zero])
      refine wpAnyH_take (i := 14) (v := undef) rfl (by kernel_rfl) (by kernel_rfl) (by kernel_rfl) (fun _ _ _ h => h) (Or.inr (And.intro (by kernel_rfl) rfl)) hS0 ?r14_134
      (try simp only [Act.put, List.setIfInBounds_toArray, List.set_cons_zero, List.set_cons_succ, List.getElem_toArray, List.getElem_cons_succ, List.getElem_cons_zero])
      refine wpAnyH_take (i := 15) (v := undef) rfl (by kernel_rfl) (by kernel_rfl) (by kernel_rfl) (fun _ _ _ h => h) (Or.inr (And.intro (by kernel_rfl) rfl)) hS0 ?r15_135
      (try simp only [Act.put, List.setIfInBounds_toArray, List.set_cons_zero, List.set_cons_succ, List.getElem_toArray, List.getElem_cons_succ, List.getElem_cons_zero])
      refine wpAnyH_take (i := 16) (v := undef) rfl (by kernel_rfl) (by kernel_rfl) (by kernel_rfl) (fun _ _ _ h => h) (Or.inr (And.intro (by kernel_rfl) rfl)) hS0 ?r16_136
      (try simp only [Act.put, List.setIfInBounds_toArray, List.set_cons_zero, List.set_cons_succ, List.getElem_toArray, List.getElem_cons_succ, List.getElem_cons_zero])
      refine wpAnyH_take (i := 17) (v := undef) rfl (by kernel_rfl) (by kernel_rfl) (by kernel_rfl) (fun _ _ _ h => h) (Or.inr (And.intro (by kernel_rfl) rfl)) hS0 ?r17_137
      (try simp only [Act.put, List.setIfInBounds_toArray, List.set_cons_zero, List.set_cons_succ, List.getElem_toArray, List.getElem_cons_succ, List.getElem_cons_zero])
      refine wpAnyH_take (i := 18) (v := undef) rfl (by kernel_rfl) (by kernel_rfl) (by kernel_rfl) (fun _ _ _ h => h) (Or.inr (And.intro (by kernel_rfl) rfl)) hS0 ?r18_138
      (try simp only [Act.put, List.setIfInBounds_toArray, List.set_cons_zero, List.set_cons_succ, List.getElem_toArray, List.getElem_cons_succ, List.getElem_cons_zero])
      refine wpAnyH_take (i := 19) (v := ?v19_139) rfl (by kernel_rfl) (by kernel_rfl) (by kernel_rfl) (fun _ _ _ h => h) (Or.inl (And.intro (by kernel_rfl) ?q19_139)) hS0 ?r19_139; (case q19_139 => (intro w hx; (try dsimp only); (try go_simp); (try with_reducible rfl)))
      (try simp only [Act.put, List.setIfInBounds_toArray, List.set_cons_zero, List.set_cons_succ, List.getElem_toArray, List.getElem_cons_succ, List.getElem_cons_zero])
      refine wpAnyH_take (i := 20) (v := ?v20_140) rfl (by kernel_rfl) (by kernel_rfl) (by kernel_rfl) (fun _ _ _ h => h) (Or.inl (And.intro (by kernel_rfl) ?q20_140)) hS0 ?r20_140; (case q20_140 => (intro w hx; (try dsimp only); (try go_simp); (try with_reducible rfl)))
      (try simp only [Act.put, List.setIfInBounds_toArray, List.set_cons_zero, List.set_cons_succ, List.getElem_toArray, List.getElem_cons_succ, List.getElem_cons_zero])
      all_goals refine wpAnyH_done (by kernel_rfl) ?_ _
      go_wp2_with fail
      go_ret
      exact ⟨ret_bool (by rw [HV.out]; simp [y1, y2, y3]), bstep L2.out hS0⟩
    | true =>
      cases z2 with
      | false =>
        refine wp_region_held_drew (S := fun W => Below w2.heap.size w2 W) (by kernel_rfl) (bb.drew) (fun hS0 => ?_)
        refine wpAnyH_take (i := 0) (v := ?v0_141) rfl (by kernel_rfl) (by kernel_rfl) (by kernel_rfl) (fun _ _ _ h => h) (Or.inl (And.intro (by kernel_rfl) ?q0_141)) hS0 ?r0_141; (case q0_141 => (intro w hx; (try dsimp only); (try go_simp); (try with_reducible rfl)))
        (try simp only [Act.put, List.setIfInBounds_toArray, List.set_cons_zero, List.set_cons_succ, List.getElem_toArray, List.getElem_cons_succ, List.getElem_cons_zero])
        refine wpAnyH_take (i := 1) (v := ?v1_142) rfl (by kernel_rfl) (by kernel_rfl) (by kernel_rfl) (fun _ _ _ h => h) (Or.inl (And.intro (by kernel_rfl) ?q1_142)) hS0 ?r1_142; (case q1_142 => (intro w hx; (try dsimp only); (try go_simp); (try with_reducible rfl)))
        (try simp only [Act.put, List.setIfInBounds_toArray, List.set_cons_zero, List.set_cons_succ, List.getElem_toArray, List.getElem_cons_succ, List.getElem_cons_zero])
        refine wpAnyH_take (i := 3) (v := ?v3_143) rfl (by kernel_rfl) (by kernel_rfl) (by kernel_rfl) (fun _ _ _ h => h) (Or.inl (And.intro (by kernel_rfl) ?q3_143)) hS0 ?r3_143; (case q3_143 => (intro w hx; (try dsimp only); (try go_simp); (try with_reducible rfl)))
        (try simp only [Act.put, List.setIfInBounds_toArray, List.set_cons_zero, List.set_cons_succ, List.getElem_toArray, List.getElem_cons_succ, List.getElem_cons_zero])
        refine wpAnyH_take (i := 4) (v := ?v4_144) rfl (by kernel_rfl) (by kernel_rfl) (by kernel_rfl) (fun _ _ _ h => h) (Or.inl (And.intro (by kernel_rfl) ?q4_144)) hS0 ?r4_144; (case q4_144 => (intro w hx; (try dsimp only); (try go_simp); (try with_reducible rfl)))
        (try simp only [Act.put, List.setIfInBounds_toArray, List.set_cons_zero, List.set_cons_succ, List.getElem_toArray, List.getElem_cons_succ, List.getElem_cons_zero])
        all_goals refine wpAnyH_ready (rs := [2]) (by kernel_rfl) (by simp) ?_
        all_goals refine AllReadyH.cons rfl (fun K hK => ?_) AllReadyH.nil
        all_goals (rw [if_pos (by kernel_rfl)]; (try simp only [List.getElem_toArray, List.getElem_cons_succ, List.getElem_cons_zero]); go_simp; ((with_reducible refine (CE.out _ (bstep L2.out hS0)).mono ?_); rintro e wq ⟨rfl, bq⟩); (try go_wp2_with fail); refine hK.out _ _ (by (first | with_reducible exact hS0 | exact bstep hS0 bq)) (fun hS0 => ?_); clear hK K; (try simp only [Act.put, List.setIfInBounds_toArray, List.set_cons_zero, List.set_cons_succ, List.getElem_toArray, List.getElem_cons_succ, List.getElem_cons_zero]))
        refine wpAnyH_take (i := 5) (v := ?v5_145) rfl (by kernel_rfl) (by kernel_rfl) (by kernel_rfl) (fun _ _ _ h => h) (Or.inl (And.intro (by kernel_rfl) ?q5_145)) hS0 ?r5_145; (case q5_145 => (intro w hx; (try dsimp only); (try go_simp); (try with_reducible rfl)))
        (try simp only [Act.put, List.setIfInBounds_toArray, List.set_cons_zero, List.set_cons_succ, List.getElem_toArray, List.getElem_cons_succ, List.getElem_cons_zero])
        refine wpAnyH_take (i := 6) (v := ?v6_146) rfl (by kernel_rfl) (by kernel_rfl) (by kernel_rfl) (fun _ _ _ h => h) (Or.inl (And.intro (by kernel_rfl) ?q6_146)) hS0 ?r6_146; (case q6_146 => (intro w hx; (try dsimp only); (try go_simp); (try with_reducible rfl)))
        (try simp only [Act.put, List.setIfInBounds_toArray, List.set_cons_zero, List.set_cons_succ, List.getElem_toArray, List.getElem_cons_succ, List.getElem_cons_zero])
        refine wpAnyH_take (i := 7) (v := ?v7_147) rfl (by kernel_rfl) (by kernel_rfl) (by kernel_rfl) (fun _ _ _ h => h) (Or.inl (And.intro (by kernel_rfl) ?q7_147)) hS0 ?r7_147; (case q7_147 => (intro w hx; (try dsimp only); (try go_simp); (try with_reducible rfl)))
        (try simp only [Act.put, List.setIfInBounds_toArray, List.set_cons_zero, List.set_cons_succ, List.getElem_toArray, List.getElem_cons_succ, List.getElem_cons_zero])
        refine wpAnyH_take (i := 8) (v := ?v8_148) rfl (by kernel_rfl) (by kernel_rfl) (by kernel_rfl) (fun _ _ _ h => h) (Or.inl (And.intro (by kernel_rfl) ?q8_148)) hS0 ?r8_148; (case q8_148 => (intro w hx; (try dsimp only); (try go_simp); (try with_reducible rfl)))
        (try simp only [Act.put, List.setIfInBounds_toArray, List.set_cons_zero, List.set_cons_succ, List.getElem_toArray, List.getElem_cons_succ, List.getElem_cons_zero])
        refine wpAnyH_take (i := 9) (v := ?v9_149) rfl (by kernel_rfl) (by kernel_rfl) (by kernel_rfl) (fun _ _ _ h => h) (Or.inl (And.intro (by kernel_rfl) ?q9_149)) hS0 ?r9_149; (case q9_149 => (intro w hx; (try dsimp only); (try go_simp); (try with_reducible rfl)))
        (try simp only [Act.put, List.setIfInBounds_toArray, List.set_cons_zero, List.set_cons_succ, List.getElem_toArray, List.getElem_cons_succ, List.getElem_cons_zero])
        refine wpAnyH_take (i := 10) (v := ?v10_150) rfl (by kernel_rfl) (by kernel_rfl) (by kernel_rfl) (fun _ _ _ h => h) (Or.inl (And.intro (by kernel_rfl) ?q10_150)) hS0 ?r10_150; (case q10_150 => (intro w hx; (try dsimp only); (try go_simp); (try with_reducible rfl)))
        (try simp only [Act.put, List.setIfInBounds_toArray, List.set_cons_zero, List.set_cons_succ, List.getElem_toArray, List.getElem_cons_succ, List.getElem_cons_zero])
        refine wpAnyH_take (i := 11) (v := ?v11_151) rfl (by kernel_rfl) (by kernel_rfl) (by kernel_rfl) (fun _ _ _ h => h) (Or.inl (And.intro (by kernel_rfl) ?q11_151)) hS0 ?r11_151; (case q11_151 => (intro w hx; (try dsimp only); (try go_simp); (try with_reducible rfl)))
        (try simp only [Act.put, List.setIfInBounds_toArray, List.set_cons_zero, List.set_cons_succ, List.getElem_toArray, List.getElem_cons_succ, List.getElem_cons_zero])
        refine wpAnyH_take (i := 12) (v := ?v12_152) rfl (by kernel_rfl) (by kernel_rfl) (by kernel_rfl) (fun _ _ _ h => h) (Or.inl (And.intro (by kernel_rfl) ?q12_152)) hS0 ?r12_152; (case q12_152 => (intro w hx; (try dsimp only); (try go_simp); (try with_reducible rfl)))
        (try simp only [Act.put, List.setIfInBounds_toArray, List.set_cons_zero, List.set_cons_succ, List.getElem_toArray, List.getElem_cons_succ, List.getElem_cons_zero])
        refine wpAnyH_take (i := 13) (v := ?v13_153) rfl (by kernel_rfl) (by kernel_rfl) (by kernel_rfl) (fun _ _ _ h => h) (Or.inl (And.intro (by kernel_rfl) ?q13_153)) hS0 ?r13_153; (case q13_153 => (intro w hx; (try dsimp only); (try go_simp); (try with_reducible rfl)))
        (try simp only [Act.put, List.setIfInBounds_toArray, List.set_cons_zero, List.set_cons_succ, List.getElem_toArray, List.getElem_cons_succ, List.getElem_cons_zero])
        refine wpAnyH_take (i := 14) (v := undef) rfl (by kernel_rfl) (by kernel_rfl) (by kernel_rfl) (fun _ _ _ h => h) (Or.inr (And.intro (by kernel_rfl) rfl)) hS0 ?r14_154
        (try simp only [Act.put, List.setIfInBounds_toArray, List.set_cons_zero, List.set_cons_succ, List.getElem_toArray, List.getElem_cons_succ, List.getElem_cons_zero])
        refine wpAnyH_take (i := 15) (v := undef) rfl (by kernel_rfl) (by kernel_rfl) (by kernel_rfl) (fun _ _ _ h => h) (Or.inr (And.intro (by kernel_rfl) rfl)) hS0 ?r15_155
        (try simp only [Act.put, List.setIfInBounds_toArray, List.set_cons_zero, List.set_cons_succ, List.getElem_toArray, List.getElem_cons_succ, List.getElem_cons_zero])
        refine wpAnyH_take (i := 16) (v := undef) rfl (by kernel_rfl) (by kernel_rfl) (by kernel_rfl) (fun _ _ _ h => h) (Or.inr (And.intro (by kernel_rfl) rfl)) hS0 ?r16_156
        (try simp only [Act.put, List.setIfInBounds_toArray, List.set_cons_zero, List.set_cons_succ, List.getElem_toArray, List.getElem_cons_succ, List.getElem_cons_zero])
        refine wpAnyH_take (i := 17) (v := undef) rfl (by kernel_rfl) (by kernel_rfl) (by kernel_rfl) (fun _ _ _ h => h) (Or.inr (And.intro (by kernel_rfl) rfl)) hS0 ?r17_157
        (try simp only [Act.put, List.setIfInBounds_toArray, List.set_cons_zero, List.set_cons_succ, List.getElem_toArray, List.getElem_cons_succ, List.getElem_cons_zero])
        refine wpAnyH_take (i := 18) (v := undef) rfl (by kernel_rfl) (by kernel_rfl) (by kernel_rfl) (fun _ _ _ h => h) (Or.inr (And.intro (by kernel_rfl) rfl)) hS0 ?r18_158
        (try simp only [Act.put, List.setIfInBounds_toArray, List.set_cons_zero, List.set_cons_succ, List.getElem_toArray, List.getElem_cons_succ, List.getElem_cons_zero])
        refine wpAnyH_take (i := 19) (v := ?v19_159) rfl (by kernel_rfl) (by kernel_rfl) (by kernel_rfl) (fun _ _ _ h => h) (Or.inl (And.intro (by kernel_rfl) ?q19_159)) hS0 ?r19_159; (case q19_159 => (intro w hx; (try dsimp only); (try go_simp); (try with_reducible rfl)))
        (try simp only [Act.put, List.setIfInBounds_toArray, List.set_cons_zero, List.set_cons_succ, List.getElem_toArray, List.getElem_cons_succ, List.getElem_cons_zero])
        refine wpAnyH_take (i := 20) (v := ?v20_160) rfl (by kernel_rfl) (by kernel_rfl) (by kernel_rfl) (fun _ _ _ h => h) (Or.inl (And.intro (by kernel_rfl) ?q20_160)) hS0 ?r20_160; (case q20_160 => (intro w hx; (try dsimp only); (try go_simp); (try with_reducible rfl)))
        (try simp only [Act.put, List.setIfInBounds_toArray, List.set_cons_zero, List.set_cons_succ, List.getElem_toArray, List.getElem_cons_succ, List.getElem_cons_zero])
        all_goals refine wpAnyH_done (by kernel_rfl) ?_ _
        go_wp2_with fail
        go_ret
        exact ⟨ret_bool (by rw [HV.out]; simp [y1, y2, y3]), bstep L2.out hS0⟩
      | true =>
        refine wp_region_held_drew (S := fun W => Below w2.heap.size w2 W) (by kernel_rfl) (bb.drew) (fun hS0 => ?_)
        refine wpAnyH_take (i := 0) (v := ?v0_161) rfl (by kernel_rfl) (by kernel_rfl) (by kernel_rfl) (fun _ _ _ h => h) (Or.inl (And.intro (by kernel_rfl) ?q0_161)) hS0 ?r0_161; (case q0_161 => (intro w hx; (try dsimp only); (try go_simp); (try with_reducible rfl)))
        (try simp only [Act.put, List.setIfInBounds_toArray, List.set_cons_zero, List.set_cons_succ, List.getElem_toArray, List.getElem_cons_succ, List.getElem_cons_zero])
        refine wpAnyH_take (i := 1) (v := ?v1_162) rfl (by kernel_rfl) (by kernel_rfl) (by kernel_rfl) (fun _ _ _ h => h) (Or.inl (And.intro (by kernel_rfl) ?q1_162)) hS0 ?r1_162; (case q1_162 => (intro w hx; (try dsimp only); (try go_simp); (try with_reducible rfl)))
        (try simp only [Act.put, List.setIfInBounds_toArray, List.set_cons_zero, List.set_cons_succ, List.getElem_toArray, List.getElem_cons_succ, List.getElem_cons_zero])
        refine wpAnyH_take (i := 3) (v := ?v3_163) rfl (by kernel_rfl) (by kernel_rfl) (by kernel_rfl) (fun _ _ _ h => h) (Or.inl (And.intro (by kernel_rfl) ?q3_163)) hS0 ?r3_163; (case q3_163 => (intro w hx; (try dsimp only); (try go_simp); (try with_reducible rfl)))
        (try simp only [Act.put, List.setIfInBounds_toArray, List.set_cons_zero, List.set_cons_succ, List.getElem_toArray, List.getElem_cons_succ, List.getElem_cons_zero])
        refine wpAnyH_take (i := 4) (v := ?v4_164) rfl (by kernel_rfl) (by kernel_rfl) (by kernel_rfl) (fun _ _ _ h => h) (Or.inl (And.intro (by kernel_rfl) ?q4_164)) hS0 ?r4_164; (case q4_164 => (intro w hx; (try dsimp only); (try go_simp); (try with_reducible rfl)))
        (try simp only [Act.put, List.setIfInBounds_toArray, List.set_cons_zero, List.set_cons_succ, List.getElem_toArray, List.getElem_cons_succ, List.getElem_cons_zero])
        all_goals refine wpAnyH_ready (rs := [2]) (by kernel_rfl) (by simp) ?_
        all_goals refine AllReadyH.cons rfl (fun K hK => ?_) AllReadyH.nil
        all_goals (rw [if_pos (by kernel_rfl)]; (try simp only [List.getElem_toArray, List.getElem_cons_succ, List.getElem_cons_zero]); go_simp; ((with_reducible refine (CE.out _ (bstep L2.out hS0)).mono ?_); rintro e wq ⟨rfl, bq⟩); (try go_wp2_with fail); refine hK.out _ _ (by (first | with_reducible exact hS0 | exact bstep hS0 bq)) (fun hS0 => ?_); clear hK K; (try simp only [Act.put, List.setIfInBounds_toArray, List.set_cons_zero, List.set_cons_succ, List.getElem_toArray, List.getElem_cons_succ, List.getElem_cons_zero]))
        refine wpAnyH_take (i := 5) (v := ?v5_165) rfl (by kernel_rfl) (by kernel_rfl) (by kernel_rfl) (fun _ _ _ h => h) (Or.inl (And.intro (by kernel_rfl) ?q5_165)) hS0 ?r5_165; (case q5_165 => (intro w hx; (try dsimp only); (try go_simp); (try with_reducible rfl)))
        (try simp only [Act.put, List.setIfInBounds_toArray, List.set_cons_zero, List.set_cons_succ, List.getElem_toArray, List.getElem_cons_succ, List.getElem_cons_zero])
        refine wpAnyH_take (i := 6) (v := ?v6_166) rfl (by kernel_rfl) (by kernel_rfl) (by kernel_rfl) (fun _ _ _ h => h) (Or.inl (And.intro (by kernel_rfl) ?q6_166)) hS0 ?r6_166; (case q6_166 => (intro w hx; (try dsimp only); (try go_simp); (try with_reducible rfl)))
        (try simp only [Act.put, List.setIfInBounds_toArray, List.set_cons_zero, List.set_cons_succ, List.getElem_toArray, List.getElem_cons_succ, List.getElem_cons_zero])
        refine wpAnyH_take (i := 7) (v := ?v7_167) rfl (by kernel_rfl) (by kernel_rfl) (by kernel_rfl) (fun _ _ _ h => h) (Or.inl (And.intro (by kernel_rfl) ?q7_167)) hS0 ?r7_167; (case q7_167 => (intro w hx; (try dsimp only); (try go_simp); (try with_reducible rfl)))
        (try simp only [Act.put, List.setIfInBounds_toArray, List.set_cons_zero, List.set_cons_succ, List.getElem_toArray, List.getElem_cons_succ, List.getElem_cons_zero])
        refine wpAnyH_take (i := 8) (v := ?v8_168) rfl (by kernel_rfl) (by kernel_rfl) (by kernel_rfl) (fun _ _ _ h => h) (Or.inl (And.intro (by kernel_rfl) ?q8_168)) hS0 ?r8_168; (case q8_168 => (intro w hx; (try dsimp only); (try go_simp); (try with_reducible rfl)))
        (try simp only [Act.put, List.setIfInBounds_toArray, List.set_cons_zero, List.set_cons_succ, List.getElem_toArray, List.getElem_cons_succ, List.getElem_cons_zero])
        refine wpAnyH_take (i := 9) (v := ?v9_169) rfl (by kernel_rfl) (by kernel_rfl) (by kernel_rfl) (fun _ _ _ h => h) (Or.inl (And.intro (by kernel_rfl) ?q9_169)) hS0 ?r9_169; (case q9_169 => (intro w hx; (try dsimp only); (try go_simp); (try with_reducible rfl)))
        (try simp only [Act.put, List.setIfInBounds_toArray, List.set_cons_zero, List.set_cons_succ, List.getElem_toArray, List.getElem_cons_succ, List.getElem_cons_zero])
        refine wpAnyH_take (i := 10) (v := ?v10_170) rfl (by kernel_rfl) (by kernel_rfl) (by kernel_rfl) (fun _ _ _ h => h) (Or.inl (And.intro (by kernel_rfl) ?q10_170)) hS0 ?r10_170; (case q10_170 => (intro w hx; (try dsimp only); (try go_simp); (try with_reducible rfl)))
        (try simp only [Act.put, List.setIfInBounds_toArray, List.set_cons_zero, List.set_cons_succ, List.getElem_toArray, List.getElem_cons_succ, List.getElem_cons_zero])
        refine wpAnyH_take (i := 11) (v := ?v11_171) rfl (by kernel_rfl) (by kernel_rfl) (by kernel_rfl) (fun _ _ _ h => h) (Or.inl (And.intro (by kernel_rfl) ?q11_171)) hS0 ?r11_171; (case q11_171 => (intro w hx; (try dsimp only); (try go_simp); (try with_reducible rfl)))
        (try simp only [Act.put, List.setIfInBounds_toArray, List.set_cons_zero, List.set_cons_succ, List.getElem_toArray, List.getElem_cons_succ, List.getElem_cons_zero])
        refine wpAnyH_take (i := 12) (v := ?v12_172) rfl (by kernel_rfl) (by kernel_rfl) (by kernel_rfl) (fun _ _ _ h => h) (Or.inl (And.intro (by kernel_rfl) ?q12_172)) hS0 ?r12_172; (case q12_172 => (intro w hx; (try dsimp only); (try go_simp); (try with_reducible rfl)))
        (try simp only [Act.put, List.setIfInBounds_toArray, List.set_cons_zero, List.set_cons_succ, List.getElem_toArray, List.getElem_cons_succ, List.getElem_cons_zero])
        refine wpAnyH_take (i := 13) (v := ?v13_173) rfl (by kernel_rfl) (by kernel_rfl) (by kernel_rfl) (fun _ _ _ h => h) (Or.inl (And.intro (by kernel_rfl) ?q13_173)) hS0 ?r13_173; (case q13_173 => (intro w hx; (try dsimp only); (try go_simp); (try with_reducible rfl)))
        (try simp only [Act.put, List.setIfInBounds_toArray, List.set_cons_zero, List.set_cons_succ, List.getElem_toArray, List.getElem_cons_succ, List.getElem_cons_zero])
        refine wpAnyH_take (i := 14) (v := ?v14_174) rfl (by kernel_rfl) (by kernel_rfl) (by kernel_rfl) (fun _ _ _ h => h) (Or.inl (And.intro (by kernel_rfl) ?q14_174)) hS0 ?r14_174; (case q14_174 => (intro w hx; (try dsimp only); (try go_simp); (try with_reducible rfl)))
        (try simp only [Act.put, List.setIfInBounds_toArray, List.set_cons_zero, List.set_cons_succ, List.getElem_toArray, List.getElem_cons_succ, List.getElem_cons_zero])
        refine wpAnyH_take (i := 15) (v := ?v15_175) rfl (by kernel_rfl) (by kernel_rfl) (by kernel_rfl) (fun _ _ _ h => h) (Or.inl (And.intro (by kernel_rfl) ?q15_175)) hS0 ?r15_175; (case q15_175 => (intro w hx; (try dsimp only); (try go_simp); (try with_reducible rfl)))
        (try simp only [Act.put, List.setIfInBounds_toArray, List.set_cons_zero, List.set_cons_succ, List.getElem_toArray, List.getElem_cons_succ, List.getElem_cons_zero])
        refine wpAnyH_take (i := 16) (v := ?v16_176) rfl (by kernel_rfl) (by kernel_rfl) (by kernel_rfl) (fun _ _ _ h => h) (Or.inl (And.intro (by kernel_rfl) ?q16_176)) hS0 ?r16_176; (case q16_176 => (intro w hx; (try dsimp only); (try go_simp); (try with_reducible rfl)))
        (try simp only [Act.put, List.setIfInBounds_toArray, List.set_cons_zero, List.set_cons_succ, List.getElem_toArray, List.getElem_cons_succ, List.getElem_cons_zero])
        refine wpAnyH_take (i := 17) (v := ?v17_177) rfl (by kernel_rfl) (by kernel_rfl) (by kernel_rfl) (fun _ _ _ h => h) (Or.inl (And.intro (by kernel_rfl) ?q17_177)) hS0 ?r17_177; (case q17_177 => (intro w hx; (try dsimp only); (try go_simp); (try with_reducible rfl)))
        (try simp only [Act.put, List.setIfInBounds_toArray, List.set_cons_zero, List.set_cons_succ, List.getElem_toArray, List.getElem_cons_succ, List.getElem_cons_zero])
        refine wpAnyH_take (i := 18) (v := ?v18_178) rfl (by kernel_rfl) (by kernel_rfl) (by kernel_rfl) (fun _ _ _ h => h) (Or.inl (And.intro (by kernel_rfl) ?q18_178)) hS0 ?r18_178; (case q18_178 => (intro w hx; (try dsimp only); (try go_simp); (try with_reducible rfl)))
        (try simp only [Act.put, List.setIfInBounds_toArray, List.set_cons_zero, List.set_cons_succ, List.getElem_toArray, List.getElem_cons_succ, List.getElem_cons_zero])
        refine wpAnyH_take (i := 19) (v := ?v19_179) rfl (by kernel_rfl) (by kernel_rfl) (by kernel_rfl) (fun _ _ _ h => h) (Or.inl (And.intro (by kernel_rfl) ?q19_179)) hS0 ?r19_179; (case q19_179 => (intro w hx; (try dsimp only); (try go_simp); (try with_reducible rfl)))
        (try simp only [Act.put, List.setIfInBounds_toArray, List.set_cons_zero, List.set_cons_succ, List.getElem_toArray, List.getElem_cons_succ, List.getElem_cons_zero])
        refine wpAnyH_take (i := 20) (v := ?v20_180) rfl (by kernel_rfl) (by kernel_rfl) (by kernel_rfl) (fun _ _ _ h => h) (Or.inl (And.intro (by kernel_rfl) ?q20_180)) hS0 ?r20_180; (case q20_180 => (intro w hx; (try dsimp only); (try go_simp); (try with_reducible rfl)))
        (try simp only [Act.put, List.setIfInBounds_toArray, List.set_cons_zero, List.set_cons_succ, List.getElem_toArray, List.getElem_cons_succ, List.getElem_cons_zero])
        all_goals refine wpAnyH_done (by kernel_rfl) ?_ _
        go_wp2_with fail
        go_ret
        exact ⟨ret_bool (by rw [HV.out]; simp [y1, y2, y3]), bstep L2.out hS0⟩

set_option maxHeartbeats 8000000 in
set_option maxRecDepth 100000 in
theorem d_Clash_03 (w : World) (B : Nat) (o ip b' : Int) (v : Value) (a b : Rule) (h : Doc w B o ip b' v) (q1 : (a.k == 3) = false) (q1' : (a.k != 3) = true) (q2 : (b.k == 3) = true) (q2' : (b.k != 3) = false) :
    Calls Try.prog 47 #[.pointer (some ⟨B, 0, none⟩), .agg #[.int .i64 a.k, .int .u8 a.p, .int .u32 a.sa, .int .i64 a.sb, .int .u32 a.da, .int .i64 a.db, .int .u32 a.e, .int .u16 a.f, .int .u16 a.t, .int .u32 a.ia, .int .u16 a.ip], .agg #[.int .i64 b.k, .int .u8 b.p, .int .u32 b.sa, .int .i64 b.sb, .int .u32 b.da, .int .i64 b.db, .int .u32 b.e, .int .u16 b.f, .int .u16 b.t, .int .u32 b.ia, .int .u16 b.ip]] w (Ret (.bool (dc3 o b a)) w) := by
  have ce := fun W (hW : Below w.heap.size w W) => d_ext W B o ip b' _ a (Doc.below h hW)
  obtain ⟨vv, hvv⟩ : ∃ vv, vv = dc3 o b a := ⟨_, rfl⟩
  rw [← hvv]
  unfold dc3 at hvv
  unfold Rule.cells at ce
  generalize (wholeR o a).e = ze at *
  obtain ⟨z1, hz1⟩ : ∃ z1, decide (ze = b.e) = z1 := ⟨_, rfl⟩
  obtain ⟨z2, y2⟩ : ∃ z2, decide (a.f ≤ b.f) = z2 := ⟨_, rfl⟩
  obtain ⟨z3, y3⟩ : ∃ z3, decide (b.f ≤ a.t) = z3 := ⟨_, rfl⟩
  obtain ⟨z4, y4⟩ : ∃ z4, (a.p != 0) = z4 := ⟨_, rfl⟩
  obtain ⟨z5, y5⟩ : ∃ z5, (a.p != b.p) = z5 := ⟨_, rfl⟩
  have t4 : decide (a.p ≠ 0) = z4 := by rw [← y4, Bool.eq_iff_iff]; simp
  have t5 : decide (a.p ≠ b.p) = z5 := by rw [← y5, Bool.eq_iff_iff]; simp
  rw [hz1, y2, y3, t4, t5] at hvv
  clear t4 t5
  have y1 : (ze == b.e) = z1 := hz1
  clear hz1
  have HV := hide hvv; have H := hide h; have CE := hide ce
  clear hvv h ce
  go_enter Try.func47, Try.ntmps47
  have d0 := Cells.new w #[.int .i64 a.k, .int .u8 a.p, .int .u32 a.sa, .int .i64 a.sb, .int .u32 a.da, .int .i64 a.db, .int .u32 a.e, .int .u16 a.f, .int .u16 a.t, .int .u32 a.ia, .int .u16 a.ip] 30
  replace d0 := Cells.below (fresh_below (w.alloc (.cells #[.int .i64 a.k, .int .u8 a.p, .int .u32 a.sa, .int .i64 a.sb, .int .u32 a.da, .int .i64 a.db, .int .u32 a.e, .int .u16 a.f, .int .u16 a.t, .int .u32 a.ia, .int .u16 a.ip] 30)) (.cells #[.int .i64 b.k, .int .u8 b.p, .int .u32 b.sa, .int .i64 b.sb, .int .u32 b.da, .int .i64 b.db, .int .u32 b.e, .int .u16 b.f, .int .u16 b.t, .int .u32 b.ia, .int .u16 b.ip] 30)) d0
  have d1 := Cells.new (w.alloc (.cells #[.int .i64 a.k, .int .u8 a.p, .int .u32 a.sa, .int .i64 a.sb, .int .u32 a.da, .int .i64 a.db, .int .u32 a.e, .int .u16 a.f, .int .u16 a.t, .int .u32 a.ia, .int .u16 a.ip] 30)) #[.int .i64 b.k, .int .u8 b.p, .int .u32 b.sa, .int .i64 b.sb, .int .u32 b.da, .int .i64 b.db, .int .u32 b.e, .int .u16 b.f, .int .u16 b.t, .int .u32 b.ia, .int .u16 b.ip] 30
  have l0 : Below w.heap.size w ((w.alloc (.cells #[.int .i64 a.k, .int .u8 a.p, .int .u32 a.sa, .int .i64 a.sb, .int .u32 a.da, .int .i64 a.db, .int .u32 a.e, .int .u16 a.f, .int .u16 a.t, .int .u32 a.ia, .int .u16 a.ip] 30)).alloc (.cells #[.int .i64 b.k, .int .u8 b.p, .int .u32 b.sa, .int .i64 b.sb, .int .u32 b.da, .int .i64 b.db, .int .u32 b.e, .int .u16 b.f, .int .u16 b.t, .int .u32 b.ia, .int .u16 b.ip] 30)) := bstep (fresh_below _ _) (fresh_below _ _)
  rw [World.size_alloc] at d1
  have L0 := hide l0; have D0 := hide d0; have D1 := hide d1
  clear l0 d0 d1
  go_upto_region 1 with fail
  have l0 := L0.out; have d0 := D0.out; have d1 := D1.out
  clear L0 D0 D1
  generalize ((w.alloc (.cells #[.int .i64 a.k, .int .u8 a.p, .int .u32 a.sa, .int .i64 a.sb, .int .u32 a.da, .int .i64 a.db, .int .u32 a.e, .int .u16 a.f, .int .u16 a.t, .int .u32 a.ia, .int .u16 a.ip] 30)).alloc (.cells #[.int .i64 b.k, .int .u8 b.p, .int .u32 b.sa, .int .i64 b.sb, .int .u32 b.da, .int .i64 b.db, .int .u32 b.e, .int .u16 b.f, .int .u16 b.t, .int .u32 b.ia, .int .u16 b.ip] 30)) = w1 at *
  have xd0_0 : w1.cell? ⟨w.heap.size, 0, none⟩ = some (.int .i64 a.k) := d0.at_ 0
  have xd0_1 : w1.cell? ⟨w.heap.size, 1, none⟩ = some (.int .u8 a.p) := d0.at_ 1
  have xd0_2 : w1.cell? ⟨w.heap.size, 2, none⟩ = some (.int .u32 a.sa) := d0.at_ 2
  have xd0_3 : w1.cell? ⟨w.heap.size, 3, none⟩ = some (.int .i64 a.sb) := d0.at_ 3
  have xd0_4 : w1.cell? ⟨w.heap.size, 4, none⟩ = some (.int .u32 a.da) := d0.at_ 4
  have xd0_5 : w1.cell? ⟨w.heap.size, 5, none⟩ = some (.int .i64 a.db) := d0.at_ 5
  have xd0_6 : w1.cell? ⟨w.heap.size, 6, none⟩ = some (.int .u32 a.e) := d0.at_ 6
  have xd0_7 : w1.cell? ⟨w.heap.size, 7, none⟩ = some (.int .u16 a.f) := d0.at_ 7
  have xd0_8 : w1.cell? ⟨w.heap.size, 8, none⟩ = some (.int .u16 a.t) := d0.at_ 8
  have xd0_9 : w1.cell? ⟨w.heap.size, 9, none⟩ = some (.int .u32 a.ia) := d0.at_ 9
  have xd0_10 : w1.cell? ⟨w.heap.size, 10, none⟩ = some (.int .u16 a.ip) := d0.at_ 10
  have yd0_0 : w1.frozen? ⟨w.heap.size, 0, none⟩ = false := d0.free 0
  have yd0_1 : w1.frozen? ⟨w.heap.size, 1, none⟩ = false := d0.free 1
  have yd0_2 : w1.frozen? ⟨w.heap.size, 2, none⟩ = false := d0.free 2
  have yd0_3 : w1.frozen? ⟨w.heap.size, 3, none⟩ = false := d0.free 3
  have yd0_4 : w1.frozen? ⟨w.heap.size, 4, none⟩ = false := d0.free 4
  have yd0_5 : w1.frozen? ⟨w.heap.size, 5, none⟩ = false := d0.free 5
  have yd0_6 : w1.frozen? ⟨w.heap.size, 6, none⟩ = false := d0.free 6
  have yd0_7 : w1.frozen? ⟨w.heap.size, 7, none⟩ = false := d0.free 7
  have yd0_8 : w1.frozen? ⟨w.heap.size, 8, none⟩ = false := d0.free 8
  have yd0_9 : w1.frozen? ⟨w.heap.size, 9, none⟩ = false := d0.free 9
  have yd0_10 : w1.frozen? ⟨w.heap.size, 10, none⟩ = false := d0.free 10
  have xd1_0 : w1.cell? ⟨w.heap.size + 1, 0, none⟩ = some (.int .i64 b.k) := d1.at_ 0
  have xd1_1 : w1.cell? ⟨w.heap.size + 1, 1, none⟩ = some (.int .u8 b.p) := d1.at_ 1
  have xd1_2 : w1.cell? ⟨w.heap.size + 1, 2, none⟩ = some (.int .u32 b.sa) := d1.at_ 2
  have xd1_3 : w1.cell? ⟨w.heap.size + 1, 3, none⟩ = some (.int .i64 b.sb) := d1.at_ 3
  have xd1_4 : w1.cell? ⟨w.heap.size + 1, 4, none⟩ = some (.int .u32 b.da) := d1.at_ 4
  have xd1_5 : w1.cell? ⟨w.heap.size + 1, 5, none⟩ = some (.int .i64 b.db) := d1.at_ 5
  have xd1_6 : w1.cell? ⟨w.heap.size + 1, 6, none⟩ = some (.int .u32 b.e) := d1.at_ 6
  have xd1_7 : w1.cell? ⟨w.heap.size + 1, 7, none⟩ = some (.int .u16 b.f) := d1.at_ 7
  have xd1_8 : w1.cell? ⟨w.heap.size + 1, 8, none⟩ = some (.int .u16 b.t) := d1.at_ 8
  have xd1_9 : w1.cell? ⟨w.heap.size + 1, 9, none⟩ = some (.int .u32 b.ia) := d1.at_ 9
  have xd1_10 : w1.cell? ⟨w.heap.size + 1, 10, none⟩ = some (.int .u16 b.ip) := d1.at_ 10
  have yd1_0 : w1.frozen? ⟨w.heap.size + 1, 0, none⟩ = false := d1.free 0
  have yd1_1 : w1.frozen? ⟨w.heap.size + 1, 1, none⟩ = false := d1.free 1
  have yd1_2 : w1.frozen? ⟨w.heap.size + 1, 2, none⟩ = false := d1.free 2
  have yd1_3 : w1.frozen? ⟨w.heap.size + 1, 3, none⟩ = false := d1.free 3
  have yd1_4 : w1.frozen? ⟨w.heap.size + 1, 4, none⟩ = false := d1.free 4
  have yd1_5 : w1.frozen? ⟨w.heap.size + 1, 5, none⟩ = false := d1.free 5
  have yd1_6 : w1.frozen? ⟨w.heap.size + 1, 6, none⟩ = false := d1.free 6
  have yd1_7 : w1.frozen? ⟨w.heap.size + 1, 7, none⟩ = false := d1.free 7
  have yd1_8 : w1.frozen? ⟨w.heap.size + 1, 8, none⟩ = false := d1.free 8
  have yd1_9 : w1.frozen? ⟨w.heap.size + 1, 9, none⟩ = false := d1.free 9
  have yd1_10 : w1.frozen? ⟨w.heap.size + 1, 10, none⟩ = false := d1.free 10
  have d2 := Cells.far11 (Cells.put11 d0 (.int .i64 b.k) (.int .u8 b.p) (.int .u32 b.sa) (.int .i64 b.sb) (.int .u32 b.da) (.int .i64 b.db) (.int .u32 b.e) (.int .u16 b.f) (.int .u16 b.t) (.int .u32 b.ia) (.int .u16 b.ip)) (show w.heap.size ≠ w.heap.size + 1 by omega) (.int .i64 a.k) (.int .u8 a.p) (.int .u32 a.sa) (.int .i64 a.sb) (.int .u32 a.da) (.int .i64 a.db) (.int .u32 a.e) (.int .u16 a.f) (.int .u16 a.t) (.int .u32 a.ia) (.int .u16 a.ip)
  have e2 := Cells.put11 (Cells.far11 d1 (show w.heap.size + 1 ≠ w.heap.size by omega) (.int .i64 b.k) (.int .u8 b.p) (.int .u32 b.sa) (.int .i64 b.sb) (.int .u32 b.da) (.int .i64 b.db) (.int .u32 b.e) (.int .u16 b.f) (.int .u16 b.t) (.int .u32 b.ia) (.int .u16 b.ip)) (.int .i64 a.k) (.int .u8 a.p) (.int .u32 a.sa) (.int .i64 a.sb) (.int .u32 a.da) (.int .i64 a.db) (.int .u32 a.e) (.int .u16 a.f) (.int .u16 a.t) (.int .u32 a.ia) (.int .u16 a.ip)
  have l2 := Below.put11 (Below.put11 l0 (Nat.le_refl w.heap.size) (.int .i64 b.k) (.int .u8 b.p) (.int .u32 b.sa) (.int .i64 b.sb) (.int .u32 b.da) (.int .i64 b.db) (.int .u32 b.e) (.int .u16 b.f) (.int .u16 b.t) (.int .u32 b.ia) (.int .u16 b.ip)) (Nat.le_succ w.heap.size) (.int .i64 a.k) (.int .u8 a.p) (.int .u32 a.sa) (.int .i64 a.sb) (.int .u32 a.da) (.int .i64 a.db) (.int .u32 a.e) (.int .u16 a.f) (.int .u16 a.t) (.int .u32 a.ia) (.int .u16 a.ip)
  have D0 := hide d2; have D1 := hide e2; have L0 := hide l2
  clear d0 d1 l0 d2 e2 l2
  go_upto_region 5 with fail
  have d0 := D0.out; have d1 := D1.out; have l0 := L0.out
  clear D0 D1 L0 xd0_0 yd0_0 xd1_0 yd1_0 xd0_1 yd0_1 xd1_1 yd1_1 xd0_2 yd0_2 xd1_2 yd1_2 xd0_3 yd0_3 xd1_3 yd1_3 xd0_4 yd0_4 xd1_4 yd1_4 xd0_5 yd0_5 xd1_5 yd1_5 xd0_6 yd0_6 xd1_6 yd1_6 xd0_7 yd0_7 xd1_7 yd1_7 xd0_8 yd0_8 xd1_8 yd1_8 xd0_9 yd0_9 xd1_9 yd1_9 xd0_10 yd0_10 xd1_10 yd1_10
  generalize hW : World.setCell _ _ _ = w2 at *
  clear hW
  have qd0_0 : ∀ W', Below w2.heap.size w2 W' → World.cell? W' ⟨w.heap.size, 0, none⟩ = some (.int .i64 b.k) := fun W' h => Cells.at_ (Cells.below h d0) 0
  have qd0_1 : ∀ W', Below w2.heap.size w2 W' → World.cell? W' ⟨w.heap.size, 1, none⟩ = some (.int .u8 b.p) := fun W' h => Cells.at_ (Cells.below h d0) 1
  have qd0_2 : ∀ W', Below w2.heap.size w2 W' → World.cell? W' ⟨w.heap.size, 2, none⟩ = some (.int .u32 b.sa) := fun W' h => Cells.at_ (Cells.below h d0) 2
  have qd0_3 : ∀ W', Below w2.heap.size w2 W' → World.cell? W' ⟨w.heap.size, 3, none⟩ = some (.int .i64 b.sb) := fun W' h => Cells.at_ (Cells.below h d0) 3
  have qd0_4 : ∀ W', Below w2.heap.size w2 W' → World.cell? W' ⟨w.heap.size, 4, none⟩ = some (.int .u32 b.da) := fun W' h => Cells.at_ (Cells.below h d0) 4
  have qd0_5 : ∀ W', Below w2.heap.size w2 W' → World.cell? W' ⟨w.heap.size, 5, none⟩ = some (.int .i64 b.db) := fun W' h => Cells.at_ (Cells.below h d0) 5
  have qd0_6 : ∀ W', Below w2.heap.size w2 W' → World.cell? W' ⟨w.heap.size, 6, none⟩ = some (.int .u32 b.e) := fun W' h => Cells.at_ (Cells.below h d0) 6
  have qd0_7 : ∀ W', Below w2.heap.size w2 W' → World.cell? W' ⟨w.heap.size, 7, none⟩ = some (.int .u16 b.f) := fun W' h => Cells.at_ (Cells.below h d0) 7
  have qd0_8 : ∀ W', Below w2.heap.size w2 W' → World.cell? W' ⟨w.heap.size, 8, none⟩ = some (.int .u16 b.t) := fun W' h => Cells.at_ (Cells.below h d0) 8
  have qd0_9 : ∀ W', Below w2.heap.size w2 W' → World.cell? W' ⟨w.heap.size, 9, none⟩ = some (.int .u32 b.ia) := fun W' h => Cells.at_ (Cells.below h d0) 9
  have qd0_10 : ∀ W', Below w2.heap.size w2 W' → World.cell? W' ⟨w.heap.size, 10, none⟩ = some (.int .u16 b.ip) := fun W' h => Cells.at_ (Cells.below h d0) 10
  have qd1_0 : ∀ W', Below w2.heap.size w2 W' → World.cell? W' ⟨w.heap.size + 1, 0, none⟩ = some (.int .i64 a.k) := fun W' h => Cells.at_ (Cells.below h d1) 0
  have qd1_1 : ∀ W', Below w2.heap.size w2 W' → World.cell? W' ⟨w.heap.size + 1, 1, none⟩ = some (.int .u8 a.p) := fun W' h => Cells.at_ (Cells.below h d1) 1
  have qd1_2 : ∀ W', Below w2.heap.size w2 W' → World.cell? W' ⟨w.heap.size + 1, 2, none⟩ = some (.int .u32 a.sa) := fun W' h => Cells.at_ (Cells.below h d1) 2
  have qd1_3 : ∀ W', Below w2.heap.size w2 W' → World.cell? W' ⟨w.heap.size + 1, 3, none⟩ = some (.int .i64 a.sb) := fun W' h => Cells.at_ (Cells.below h d1) 3
  have qd1_4 : ∀ W', Below w2.heap.size w2 W' → World.cell? W' ⟨w.heap.size + 1, 4, none⟩ = some (.int .u32 a.da) := fun W' h => Cells.at_ (Cells.below h d1) 4
  have qd1_5 : ∀ W', Below w2.heap.size w2 W' → World.cell? W' ⟨w.heap.size + 1, 5, none⟩ = some (.int .i64 a.db) := fun W' h => Cells.at_ (Cells.below h d1) 5
  have qd1_6 : ∀ W', Below w2.heap.size w2 W' → World.cell? W' ⟨w.heap.size + 1, 6, none⟩ = some (.int .u32 a.e) := fun W' h => Cells.at_ (Cells.below h d1) 6
  have qd1_7 : ∀ W', Below w2.heap.size w2 W' → World.cell? W' ⟨w.heap.size + 1, 7, none⟩ = some (.int .u16 a.f) := fun W' h => Cells.at_ (Cells.below h d1) 7
  have qd1_8 : ∀ W', Below w2.heap.size w2 W' → World.cell? W' ⟨w.heap.size + 1, 8, none⟩ = some (.int .u16 a.t) := fun W' h => Cells.at_ (Cells.below h d1) 8
  have qd1_9 : ∀ W', Below w2.heap.size w2 W' → World.cell? W' ⟨w.heap.size + 1, 9, none⟩ = some (.int .u32 a.ia) := fun W' h => Cells.at_ (Cells.below h d1) 9
  have qd1_10 : ∀ W', Below w2.heap.size w2 W' → World.cell? W' ⟨w.heap.size + 1, 10, none⟩ = some (.int .u16 a.ip) := fun W' h => Cells.at_ (Cells.below h d1) 10
  have bb : Below w2.heap.size w2 w2 := Below.refl _ _
  have L2 := hide l0
  clear l0 d0 d1
  cases z4 <;> cases z5
  case true.true =>
    go_wp2_with fail
    go_ret
    exact ⟨ret_bool (by rw [HV.out]; rfl), L2.out⟩
  case true.false =>
    have hv2 := HV.out
    simp only [Bool.and_false, Bool.false_and, Bool.and_true, Bool.not_false, Bool.true_and] at hv2
    have HV := hide hv2
    clear hv2
    go_wp2_with fail
    cases z1 with
    | false =>
      refine wp_region_held_drew (S := fun W => Below w2.heap.size w2 W) (by kernel_rfl) (bb.drew) (fun hS0 => ?_)
      refine wpAnyH_take (i := 0) (v := ?v0_181) rfl (by kernel_rfl) (by kernel_rfl) (by kernel_rfl) (fun _ _ _ h => h) (Or.inl (And.intro (by kernel_rfl) ?q0_181)) hS0 ?r0_181; (case q0_181 => (intro w hx; (try dsimp only); (try go_simp); (try with_reducible rfl)))
      (try simp only [Act.put, List.setIfInBounds_toArray, List.set_cons_zero, List.set_cons_succ, List.getElem_toArray, List.getElem_cons_succ, List.getElem_cons_zero])
      refine wpAnyH_take (i := 1) (v := ?v1_182) rfl (by kernel_rfl) (by kernel_rfl) (by kernel_rfl) (fun _ _ _ h => h) (Or.inl (And.intro (by kernel_rfl) ?q1_182)) hS0 ?r1_182; (case q1_182 => (intro w hx; (try dsimp only); (try go_simp); (try with_reducible rfl)))
      (try simp only [Act.put, List.setIfInBounds_toArray, List.set_cons_zero, List.set_cons_succ, List.getElem_toArray, List.getElem_cons_succ, List.getElem_cons_zero])
      refine wpAnyH_take (i := 3) (v := ?v3_183) rfl (by kernel_rfl) (by kernel_rfl) (by kernel_rfl) (fun _ _ _ h => h) (Or.inl (And.intro (by kernel_rfl) ?q3_183)) hS0 ?r3_183; (case q3_183 => (intro w hx; (try dsimp only); (try go_simp); (try with_reducible rfl)))
      (try simp only [Act.put, List.setIfInBounds_toArray, List.set_cons_zero, List.set_cons_succ, List.getElem_toArray, List.getElem_cons_succ, List.getElem_cons_zero])
      refine wpAnyH_take (i := 4) (v := ?v4_184) rfl (by kernel_rfl) (by kernel_rfl) (by kernel_rfl) (fun _ _ _ h => h) (Or.inl (And.intro (by kernel_rfl) ?q4_184)) hS0 ?r4_184; (case q4_184 => (intro w hx; (try dsimp only); (try go_simp); (try with_reducible rfl)))
      (try simp only [Act.put, List.setIfInBounds_toArray, List.set_cons_zero, List.set_cons_succ, List.getElem_toArray, List.getElem_cons_succ, List.getElem_cons_zero])
      all_goals refine wpAnyH_ready (rs := [2]) (by kernel_rfl) (by simp) ?_
      all_goals refine AllReadyH.cons rfl (fun K hK => ?_) AllReadyH.nil
      all_goals (rw [if_pos (by kernel_rfl)]; (try simp only [List.getElem_toArray, List.getElem_cons_succ, List.getElem_cons_zero]); go_simp; ((with_reducible refine (CE.out _ (bstep L2.out hS0)).mono ?_); rintro e wq ⟨rfl, bq⟩); (try go_wp2_with fail); refine hK.out _ _ (by (first | with_reducible exact hS0 | exact bstep hS0 bq)) (fun hS0 => ?_); clear hK K; (try simp only [Act.put, List.setIfInBounds_toArray, List.set_cons_zero, List.set_cons_succ, List.getElem_toArray, List.getElem_cons_succ, List.getElem_cons_zero]))
      refine wpAnyH_take (i := 5) (v := ?v5_185) rfl (by kernel_rfl) (by kernel_rfl) (by kernel_rfl) (fun _ _ _ h => h) (Or.inl (And.intro (by kernel_rfl) ?q5_185)) hS0 ?r5_185; (case q5_185 => (intro w hx; (try dsimp only); (try go_simp); (try with_reducible rfl)))
      (try simp only [Act.put, List.setIfInBounds_toArray, List.set_cons_zero, List.set_cons_succ, List.getElem_toArray, List.getElem_cons_succ, List.getElem_cons_zero])
      refine wpAnyH_take (i := 6) (v := ?v6_186) rfl (by kernel_rfl) (by kernel_rfl) (by kernel_rfl) (fun _ _ _ h => h) (Or.inl (And.intro (by kernel_rfl) ?q6_186)) hS0 ?r6_186; (case q6_186 => (intro w hx; (try dsimp only); (try go_simp); (try with_reducible rfl)))
      (try simp only [Act.put, List.setIfInBounds_toArray, List.set_cons_zero, List.set_cons_succ, List.getElem_toArray, List.getElem_cons_succ, List.getElem_cons_zero])
      refine wpAnyH_take (i := 7) (v := undef) rfl (by kernel_rfl) (by kernel_rfl) (by kernel_rfl) (fun _ _ _ h => h) (Or.inr (And.intro (by kernel_rfl) rfl)) hS0 ?r7_187
      (try simp only [Act.put, List.setIfInBounds_toArray, List.set_cons_zero, List.set_cons_succ, List.getElem_toArray, List.getElem_cons_succ, List.getElem_cons_zero])
      refine wpAnyH_take (i := 8) (v := undef) rfl (by kernel_rfl) (by kernel_rfl) (by kernel_rfl) (fun _ _ _ h => h) (Or.inr (And.intro (by kernel_rfl) rfl)) hS0 ?r8_188
      (try simp only [Act.put, List.setIfInBounds_toArray, List.set_cons_zero, List.set_cons_succ, List.getElem_toArray, List.getElem_cons_succ, List.getElem_cons_zero])
      refine wpAnyH_take (i := 9) (v := undef) rfl (by kernel_rfl) (by kernel_rfl) (by kernel_rfl) (fun _ _ _ h => h) (Or.inr (And.intro (by kernel_rfl) rfl)) hS0 ?r9_189
      (try simp only [Act.put, List.setIfInBounds_toArray, List.set_cons_zero, List.set_cons_succ, List.getElem_toArray, List.getElem_cons_succ, List.getElem_cons_zero])
      refine wpAnyH_take (i := 10) (v := undef) rfl (by kernel_rfl) (by kernel_rfl) (by kernel_rfl) (fun _ _ _ h => h) (Or.inr (And.intro (by kernel_rfl) rfl)) hS0 ?r10_190
      (try simp only [Act.put, List.setIfInBounds_toArray, List.set_cons_zero, List.set_cons_succ, List.getElem_toArray, List.getElem_cons_succ, List.getElem_cons_zero])
      refine wpAnyH_take (i := 11) (v := undef) rfl (by kernel_rfl) (by kernel_rfl) (by kernel_rfl) (fun _ _ _ h => h) (Or.inr (And.intro (by kernel_rfl) rfl)) hS0 ?r11_191
      (try simp only [Act.put, List.setIfInBounds_toArray, List.set_cons_zero, List.set_cons_succ, List.getElem_toArray, List.getElem_cons_succ, List.getElem_cons_zero])
      refine wpAnyH_take (i := 12) (v := ?v12_192) rfl (by kernel_rfl) (by kernel_rfl) (by kernel_rfl) (fun _ _ _ h => h) (Or.inl (And.intro (by kernel_rfl) ?q12_192)) hS0 ?r12_192; (case q12_192 => (intro w hx; (try dsimp only); (try go_simp); (try with_reducible rfl)))
      (try simp only [Act.put, List.setIfInBounds_toArray, List.set_cons_zero, List.set_cons_succ, List.getElem_toArray, List.getElem_cons_succ, List.getElem_cons_zero])
      refine wpAnyH_take (i := 13) (v := ?v13_193) rfl (by kernel_rfl) (by kernel_rfl) (by kernel_rfl) (fun _ _ _ h => h) (Or.inl (And.intro (by kernel_rfl) ?q13_193)) hS0 ?r13_193; (case q13_193 => (intro w hx; (try dsimp only); (try go_simp); (try with_reducible rfl)))
      (try simp only [Act.put, List.setIfInBounds_toArray, List.set_cons_zero, List.set_cons_succ, List.getElem_toArray, List.getElem_cons_succ, List.getElem_cons_zero])
      refine wpAnyH_take (i := 14) (v := undef) rfl (by kernel_rfl) (by kernel_rfl) (by kernel_rfl) (fun _ _ _ h => h) (Or.inr (And.intro (by kernel_rfl) rfl)) hS0 ?r14_194
      (try simp only [Act.put, List.setIfInBounds_toArray, List.set_cons_zero, List.set_cons_succ, List.getElem_toArray, List.getElem_cons_succ, List.getElem_cons_zero])
      refine wpAnyH_take (i := 15) (v := undef) rfl (by kernel_rfl) (by kernel_rfl) (by kernel_rfl) (fun _ _ _ h => h) (Or.inr (And.intro (by kernel_rfl) rfl)) hS0 ?r15_195
      (try simp only [Act.put, List.setIfInBounds_toArray, List.set_cons_zero, List.set_cons_succ, List.getElem_toArray, List.getElem_cons_succ, List.getElem_cons_zero])
      refine wpAnyH_take (i := 16) (v := undef) rfl (by kernel_rfl) (by kernel_rfl) (by kernel_rfl) (fun _ _ _ h => h) (Or.inr (And.intro (by kernel_rfl) rfl)) hS0 ?r16_196
      (try simp only [Act.put, List.setIfInBounds_toArray, List.set_cons_zero, List.set_cons_succ, List.getElem_toArray, List.getElem_cons_succ, List.getElem_cons_zero])
      refine wpAnyH_take (i := 17) (v := undef) rfl (by kernel_rfl) (by kernel_rfl) (by kernel_rfl) (fun _ _ _ h => h) (Or.inr (And.intro (by kernel_rfl) rfl)) hS0 ?r17_197
      (try simp only [Act.put, List.setIfInBounds_toArray, List.set_cons_zero, List.set_cons_succ, List.getElem_toArray, List.getElem_cons_succ, List.getElem_cons_zero])
      refine wpAnyH_take (i := 18) (v := undef) rfl (by kernel_rfl) (by kernel_rfl) (by kernel_rfl) (fun _ _ _ h => h) (Or.inr (And.intro (by kernel_rfl) rfl)) hS0 ?r18_198
      (try simp only [Act.put, List.setIfInBounds_toArray, List.set_cons_zero, List.set_cons_succ, List.getElem_toArray, List.getElem_cons_succ, List.getElem_cons_zero])
      refine wpAnyH_take (i := 19) (v := ?v19_199) rfl (by kernel_rfl) (by kernel_rfl) (by kernel_rfl) (fun _ _ _ h => h) (Or.inl (And.intro (by kernel_rfl) ?q19_199)) hS0 ?r19_199; (case q19_199 => (intro w hx; (try dsimp only); (try go_simp); (try with_reducible rfl)))
      (try simp only [Act.put, List.setIfInBounds_toArray, List.set_cons_zero, List.set_cons_succ, List.getElem_toArray, List.getElem_cons_succ, List.getElem_cons_zero])
      refine wpAnyH_take (i := 20) (v := ?v20_200) rfl (by kernel_rfl) (by kernel_rfl) (by kernel_rfl) (fun _ _ _ h => h) (Or.inl (And.intro (by kernel_rfl) ?q20_200)) hS0 ?r20_200; (case q20_200 => (intro w hx; (try dsimp only); (try go_simp); (try with_reducible rfl)))
      (try simp only [Act.put, List.setIfInBounds_toArray, List.set_cons_zero, List.set_cons_succ, List.getElem_toArray, List.getElem_cons_succ, List.getElem_cons_zero])
      all_goals refine wpAnyH_done (by kernel_rfl) ?_ _
      go_wp2_with fail
      go_ret
      exact ⟨ret_bool (by rw [HV.out]; simp [y1, y2, y3]), bstep L2.out hS0⟩
    | true =>
      cases z2 with
      | false =>
        refine wp_region_held_drew (S := fun W => Below w2.heap.size w2 W) (by kernel_rfl) (bb.drew) (fun hS0 => ?_)
        refine wpAnyH_take (i := 0) (v := ?v0_201) rfl (by kernel_rfl) (by kernel_rfl) (by kernel_rfl) (fun _ _ _ h => h) (Or.inl (And.intro (by kernel_rfl) ?q0_201)) hS0 ?r0_201; (case q0_201 => (intro w hx; (try dsimp only); (try go_simp); (try with_reducible rfl)))
        (try simp only [Act.put, List.setIfInBounds_toArray, List.set_cons_zero, List.set_cons_succ, List.getElem_toArray, List.getElem_cons_succ, List.getElem_cons_zero])
        refine wpAnyH_take (i := 1) (v := ?v1_202) rfl (by kernel_rfl) (by kernel_rfl) (by kernel_rfl) (fun _ _ _ h => h) (Or.inl (And.intro (by kernel_rfl) ?q1_202)) hS0 ?r1_202; (case q1_202 => (intro w hx; (try dsimp only); (try go_simp); (try with_reducible rfl)))
        (try simp only [Act.put, List.setIfInBounds_toArray, List.set_cons_zero, List.set_cons_succ, List.getElem_toArray, List.getElem_cons_succ, List.getElem_cons_zero])
        refine wpAnyH_take (i := 3) (v := ?v3_203) rfl (by kernel_rfl) (by kernel_rfl) (by kernel_rfl) (fun _ _ _ h => h) (Or.inl (And.intro (by kernel_rfl) ?q3_203)) hS0 ?r3_203; (case q3_203 => (intro w hx; (try dsimp only); (try go_simp); (try with_reducible rfl)))
        (try simp only [Act.put, List.setIfInBounds_toArray, List.set_cons_zero, List.set_cons_succ, List.getElem_toArray, List.getElem_cons_succ, List.getElem_cons_zero])
        refine wpAnyH_take (i := 4) (v := ?v4_204) rfl (by kernel_rfl) (by kernel_rfl) (by kernel_rfl) (fun _ _ _ h => h) (Or.inl (And.intro (by kernel_rfl) ?q4_204)) hS0 ?r4_204; (case q4_204 => (intro w hx; (try dsimp only); (try go_simp); (try with_reducible rfl)))
        (try simp only [Act.put, List.setIfInBounds_toArray, List.set_cons_zero, List.set_cons_succ, List.getElem_toArray, List.getElem_cons_succ, List.getElem_cons_zero])
        all_goals refine wpAnyH_ready (rs := [2]) (by kernel_rfl) (by simp) ?_
        all_goals refine AllReadyH.cons rfl (fun K hK => ?_) AllReadyH.nil
        all_goals (rw [if_pos (by kernel_rfl)]; (try simp only [List.getElem_toArray, List.getElem_cons_succ, List.getElem_cons_zero]); go_simp; ((with_reducible refine (CE.out _ (bstep L2.out hS0)).mono ?_); rintro e wq ⟨rfl, bq⟩); (try go_wp2_with fail); refine hK.out _ _ (by (first | with_reducible exact hS0 | exact bstep hS0 bq)) (fun hS0 => ?_); clear hK K; (try simp only [Act.put, List.setIfInBounds_toArray, List.set_cons_zero, List.set_cons_succ, List.getElem_toArray, List.getElem_cons_succ, List.getElem_cons_zero]))
        refine wpAnyH_take (i := 5) (v := ?v5_205) rfl (by kernel_rfl) (by kernel_rfl) (by kernel_rfl) (fun _ _ _ h => h) (Or.inl (And.intro (by kernel_rfl) ?q5_205)) hS0 ?r5_205; (case q5_205 => (intro w hx; (try dsimp only); (try go_simp); (try with_reducible rfl)))
        (try simp only [Act.put, List.setIfInBounds_toArray, List.set_cons_zero, List.set_cons_succ, List.getElem_toArray, List.getElem_cons_succ, List.getElem_cons_zero])
        refine wpAnyH_take (i := 6) (v := ?v6_206) rfl (by kernel_rfl) (by kernel_rfl) (by kernel_rfl) (fun _ _ _ h => h) (Or.inl (And.intro (by kernel_rfl) ?q6_206)) hS0 ?r6_206; (case q6_206 => (intro w hx; (try dsimp only); (try go_simp); (try with_reducible rfl)))
        (try simp only [Act.put, List.setIfInBounds_toArray, List.set_cons_zero, List.set_cons_succ, List.getElem_toArray, List.getElem_cons_succ, List.getElem_cons_zero])
        refine wpAnyH_take (i := 7) (v := ?v7_207) rfl (by kernel_rfl) (by kernel_rfl) (by kernel_rfl) (fun _ _ _ h => h) (Or.inl (And.intro (by kernel_rfl) ?q7_207)) hS0 ?r7_207; (case q7_207 => (intro w hx; (try dsimp only); (try go_simp); (try with_reducible rfl)))
        (try simp only [Act.put, List.setIfInBounds_toArray, List.set_cons_zero, List.set_cons_succ, List.getElem_toArray, List.getElem_cons_succ, List.getElem_cons_zero])
        refine wpAnyH_take (i := 8) (v := ?v8_208) rfl (by kernel_rfl) (by kernel_rfl) (by kernel_rfl) (fun _ _ _ h => h) (Or.inl (And.intro (by kernel_rfl) ?q8_208)) hS0 ?r8_208; (case q8_208 => (intro w hx; (try dsimp only); (try go_simp); (try with_reducible rfl)))
        (try simp only [Act.put, List.setIfInBounds_toArray, List.set_cons_zero, List.set_cons_succ, List.getElem_toArray, List.getElem_cons_succ, List.getElem_cons_zero])
        refine wpAnyH_take (i := 9) (v := ?v9_209) rfl (by kernel_rfl) (by kernel_rfl) (by kernel_rfl) (fun _ _ _ h => h) (Or.inl (And.intro (by kernel_rfl) ?q9_209)) hS0 ?r9_209; (case q9_209 => (intro w hx; (try dsimp only); (try go_simp); (try with_reducible rfl)))
        (try simp only [Act.put, List.setIfInBounds_toArray, List.set_cons_zero, List.set_cons_succ, List.getElem_toArray, List.getElem_cons_succ, List.getElem_cons_zero])
        refine wpAnyH_take (i := 10) (v := ?v10_210) rfl (by kernel_rfl) (by kernel_rfl) (by kernel_rfl) (fun _ _ _ h => h) (Or.inl (And.intro (by kernel_rfl) ?q10_210)) hS0 ?r10_210; (case q10_210 => (intro w hx; (try dsimp only); (try go_simp); (try with_reducible rfl)))
        (try simp only [Act.put, List.setIfInBounds_toArray, List.set_cons_zero, List.set_cons_succ, List.getElem_toArray, List.getElem_cons_succ, List.getElem_cons_zero])
        refine wpAnyH_take (i := 11) (v := ?v11_211) rfl (by kernel_rfl) (by kernel_rfl) (by kernel_rfl) (fun _ _ _ h => h) (Or.inl (And.intro (by kernel_rfl) ?q11_211)) hS0 ?r11_211; (case q11_211 => (intro w hx; (try dsimp only); (try go_simp); (try with_reducible rfl)))
        (try simp only [Act.put, List.setIfInBounds_toArray, List.set_cons_zero, List.set_cons_succ, List.getElem_toArray, List.getElem_cons_succ, List.getElem_cons_zero])
        refine wpAnyH_take (i := 12) (v := ?v12_212) rfl (by kernel_rfl) (by kernel_rfl) (by kernel_rfl) (fun _ _ _ h => h) (Or.inl (And.intro (by kernel_rfl) ?q12_212)) hS0 ?r12_212; (case q12_212 => (intro w hx; (try dsimp only); (try go_simp); (try with_reducible rfl)))
        (try simp only [Act.put, List.setIfInBounds_toArray, List.set_cons_zero, List.set_cons_succ, List.getElem_toArray, List.getElem_cons_succ, List.getElem_cons_zero])
        refine wpAnyH_take (i := 13) (v := ?v13_213) rfl (by kernel_rfl) (by kernel_rfl) (by kernel_rfl) (fun _ _ _ h => h) (Or.inl (And.intro (by kernel_rfl) ?q13_213)) hS0 ?r13_213; (case q13_213 => (intro w hx; (try dsimp only); (try go_simp); (try with_reducible rfl)))
        (try simp only [Act.put, List.setIfInBounds_toArray, List.set_cons_zero, List.set_cons_succ, List.getElem_toArray, List.getElem_cons_succ, List.getElem_cons_zero])
        refine wpAnyH_take (i := 14) (v := undef) rfl (by kernel_rfl) (by kernel_rfl) (by kernel_rfl) (fun _ _ _ h => h) (Or.inr (And.intro (by kernel_rfl) rfl)) hS0 ?r14_214
        (try simp only [Act.put, List.setIfInBounds_toArray, List.set_cons_zero, List.set_cons_succ, List.getElem_toArray, List.getElem_cons_succ, List.getElem_cons_zero])
        refine wpAnyH_take (i := 15) (v := undef) rfl (by kernel_rfl) (by kernel_rfl) (by kernel_rfl) (fun _ _ _ h => h) (Or.inr (And.intro (by kernel_rfl) rfl)) hS0 ?r15_215
        (try simp only [Act.put, List.setIfInBounds_toArray, List.set_cons_zero, List.set_cons_succ, List.getElem_toArray, List.getElem_cons_succ, List.getElem_cons_zero])
        refine wpAnyH_take (i := 16) (v := undef) rfl (by kernel_rfl) (by kernel_rfl) (by kernel_rfl) (fun _ _ _ h => h) (Or.inr (And.intro (by kernel_rfl) rfl)) hS0 ?r16_216
        (try simp only [Act.put, List.setIfInBounds_toArray, List.set_cons_zero, List.set_cons_succ, List.getElem_toArray, List.getElem_cons_succ, List.getElem_cons_zero])
        refine wpAnyH_take (i := 17) (v := undef) rfl (by kernel_rfl) (by kernel_rfl) (by kernel_rfl) (fun _ _ _ h => h) (Or.inr (And.intro (by kernel_rfl) rfl)) hS0 ?r17_217
        (try simp only [Act.put, List.setIfInBounds_toArray, List.set_cons_zero, List.set_cons_succ, List.getElem_toArray, List.getElem_cons_succ, List.getElem_cons_zero])
        refine wpAnyH_take (i := 18) (v := undef) rfl (by kernel_rfl) (by kernel_rfl) (by kernel_rfl) (fun _ _ _ h => h) (Or.inr (And.intro (by kernel_rfl) rfl)) hS0 ?r18_218
        (try simp only [Act.put, List.setIfInBounds_toArray, List.set_cons_zero, List.set_cons_succ, List.getElem_toArray, List.getElem_cons_succ, List.getElem_cons_zero])
        refine wpAnyH_take (i := 19) (v := ?v19_219) rfl (by kernel_rfl) (by kernel_rfl) (by kernel_rfl) (fun _ _ _ h => h) (Or.inl (And.intro (by kernel_rfl) ?q19_219)) hS0 ?r19_219; (case q19_219 => (intro w hx; (try dsimp only); (try go_simp); (try with_reducible rfl)))
        (try simp only [Act.put, List.setIfInBounds_toArray, List.set_cons_zero, List.set_cons_succ, List.getElem_toArray, List.getElem_cons_succ, List.getElem_cons_zero])
        refine wpAnyH_take (i := 20) (v := ?v20_220) rfl (by kernel_rfl) (by kernel_rfl) (by kernel_rfl) (fun _ _ _ h => h) (Or.inl (And.intro (by kernel_rfl) ?q20_220)) hS0 ?r20_220; (case q20_220 => (intro w hx; (try dsimp only); (try go_simp); (try with_reducible rfl)))
        (try simp only [Act.put, List.setIfInBounds_toArray, List.set_cons_zero, List.set_cons_succ, List.getElem_toArray, List.getElem_cons_succ, List.getElem_cons_zero])
        all_goals refine wpAnyH_done (by kernel_rfl) ?_ _
        go_wp2_with fail
        go_ret
        exact ⟨ret_bool (by rw [HV.out]; simp [y1, y2, y3]), bstep L2.out hS0⟩
      | true =>
        refine wp_region_held_drew (S := fun W => Below w2.heap.size w2 W) (by kernel_rfl) (bb.drew) (fun hS0 => ?_)
        refine wpAnyH_take (i := 0) (v := ?v0_221) rfl (by kernel_rfl) (by kernel_rfl) (by kernel_rfl) (fun _ _ _ h => h) (Or.inl (And.intro (by kernel_rfl) ?q0_221)) hS0 ?r0_221; (case q0_221 => (intro w hx; (try dsimp only); (try go_simp); (try with_reducible rfl)))
        (try simp only [Act.put, List.setIfInBounds_toArray, List.set_cons_zero, List.set_cons_succ, List.getElem_toArray, List.getElem_cons_succ, List.getElem_cons_zero])
        refine wpAnyH_take (i := 1) (v := ?v1_222) rfl (by kernel_rfl) (by kernel_rfl) (by kernel_rfl) (fun _ _ _ h => h) (Or.inl (And.intro (by kernel_rfl) ?q1_222)) hS0 ?r1_222; (case q1_222 => (intro w hx; (try dsimp only); (try go_simp); (try with_reducible rfl)))
        (try simp only [Act.put, List.setIfInBounds_toArray, List.set_cons_zero, List.set_cons_succ, List.getElem_toArray, List.getElem_cons_succ, List.getElem_cons_zero])
        refine wpAnyH_take (i := 3) (v := ?v3_223) rfl (by kernel_rfl) (by kernel_rfl) (by kernel_rfl) (fun _ _ _ h => h) (Or.inl (And.intro (by kernel_rfl) ?q3_223)) hS0 ?r3_223; (case q3_223 => (intro w hx; (try dsimp only); (try go_simp); (try with_reducible rfl)))
        (try simp only [Act.put, List.setIfInBounds_toArray, List.set_cons_zero, List.set_cons_succ, List.getElem_toArray, List.getElem_cons_succ, List.getElem_cons_zero])
        refine wpAnyH_take (i := 4) (v := ?v4_224) rfl (by kernel_rfl) (by kernel_rfl) (by kernel_rfl) (fun _ _ _ h => h) (Or.inl (And.intro (by kernel_rfl) ?q4_224)) hS0 ?r4_224; (case q4_224 => (intro w hx; (try dsimp only); (try go_simp); (try with_reducible rfl)))
        (try simp only [Act.put, List.setIfInBounds_toArray, List.set_cons_zero, List.set_cons_succ, List.getElem_toArray, List.getElem_cons_succ, List.getElem_cons_zero])
        all_goals refine wpAnyH_ready (rs := [2]) (by kernel_rfl) (by simp) ?_
        all_goals refine AllReadyH.cons rfl (fun K hK => ?_) AllReadyH.nil
        all_goals (rw [if_pos (by kernel_rfl)]; (try simp only [List.getElem_toArray, List.getElem_cons_succ, List.getElem_cons_zero]); go_simp; ((with_reducible refine (CE.out _ (bstep L2.out hS0)).mono ?_); rintro e wq ⟨rfl, bq⟩); (try go_wp2_with fail); refine hK.out _ _ (by (first | with_reducible exact hS0 | exact bstep hS0 bq)) (fun hS0 => ?_); clear hK K; (try simp only [Act.put, List.setIfInBounds_toArray, List.set_cons_zero, List.set_cons_succ, List.getElem_toArray, List.getElem_cons_succ, List.getElem_cons_zero]))
        refine wpAnyH_take (i := 5) (v := ?v5_225) rfl (by kernel_rfl) (by kernel_rfl) (by kernel_rfl) (fun _ _ _ h => h) (Or.inl (And.intro (by kernel_rfl) ?q5_225)) hS0 ?r5_225; (case q5_225 => (intro w hx; (try dsimp only); (try go_simp); (try with_reducible rfl)))
        (try simp only [Act.put, List.setIfInBounds_toArray, List.set_cons_zero, List.set_cons_succ, List.getElem_toArray, List.getElem_cons_succ, List.getElem_cons_zero])
        refine wpAnyH_take (i := 6) (v := ?v6_226) rfl (by kernel_rfl) (by kernel_rfl) (by kernel_rfl) (fun _ _ _ h => h) (Or.inl (And.intro (by kernel_rfl) ?q6_226)) hS0 ?r6_226; (case q6_226 => (intro w hx; (try dsimp only); (try go_simp); (try with_reducible rfl)))
        (try simp only [Act.put, List.setIfInBounds_toArray, List.set_cons_zero, List.set_cons_succ, List.getElem_toArray, List.getElem_cons_succ, List.getElem_cons_zero])
        refine wpAnyH_take (i := 7) (v := ?v7_227) rfl (by kernel_rfl) (by kernel_rfl) (by kernel_rfl) (fun _ _ _ h => h) (Or.inl (And.intro (by kernel_rfl) ?q7_227)) hS0 ?r7_227; (case q7_227 => (intro w hx; (try dsimp only); (try go_simp); (try with_reducible rfl)))
        (try simp only [Act.put, List.setIfInBounds_toArray, List.set_cons_zero, List.set_cons_succ, List.getElem_toArray, List.getElem_cons_succ, List.getElem_cons_zero])
        refine wpAnyH_take (i := 8) (v := ?v8_228) rfl (by kernel_rfl) (by kernel_rfl) (by kernel_rfl) (fun _ _ _ h => h) (Or.inl (And.intro (by kernel_rfl) ?q8_228)) hS0 ?r8_228; (case q8_228 => (intro w hx; (try dsimp only); (try go_simp); (try with_reducible rfl)))
        (try simp only [Act.put, List.setIfInBounds_toArray, List.set_cons_zero, List.set_cons_succ, List.getElem_toArray, List.getElem_cons_succ, List.getElem_cons_zero])
        refine wpAnyH_take (i := 9) (v := ?v9_229) rfl (by kernel_rfl) (by kernel_rfl) (by kernel_rfl) (fun _ _ _ h => h) (Or.inl (And.intro (by kernel_rfl) ?q9_229)) hS0 ?r9_229; (case q9_229 => (intro w hx; (try dsimp only); (try go_simp); (try with_reducible rfl)))
        (try simp only [Act.put, List.setIfInBounds_toArray, List.set_cons_zero, List.set_cons_succ, List.getElem_toArray, List.getElem_cons_succ, List.getElem_cons_zero])
        refine wpAnyH_take (i := 10) (v := ?v10_230) rfl (by kernel_rfl) (by kernel_rfl) (by kernel_rfl) (fun _ _ _ h => h) (Or.inl (And.intro (by kernel_rfl) ?q10_230)) hS0 ?r10_230; (case q10_230 => (intro w hx; (try dsimp only); (try go_simp); (try with_reducible rfl)))
        (try simp only [Act.put, List.setIfInBounds_toArray, List.set_cons_zero, List.set_cons_succ, List.getElem_toArray, List.getElem_cons_succ, List.getElem_cons_zero])
        refine wpAnyH_take (i := 11) (v := ?v11_231) rfl (by kernel_rfl) (by kernel_rfl) (by kernel_rfl) (fun _ _ _ h => h) (Or.inl (And.intro (by kernel_rfl) ?q11_231)) hS0 ?r11_231; (case q11_231 => (intro w hx; (try dsimp only); (try go_simp); (try with_reducible rfl)))
        (try simp only [Act.put, List.setIfInBounds_toArray, List.set_cons_zero, List.set_cons_succ, List.getElem_toArray, List.getElem_cons_succ, List.getElem_cons_zero])
        refine wpAnyH_take (i := 12) (v := ?v12_232) rfl (by kernel_rfl) (by kernel_rfl) (by kernel_rfl) (fun _ _ _ h => h) (Or.inl (And.intro (by kernel_rfl) ?q12_232)) hS0 ?r12_232; (case q12_232 => (intro w hx; (try dsimp only); (try go_simp); (try with_reducible rfl)))
        (try simp only [Act.put, List.setIfInBounds_toArray, List.set_cons_zero, List.set_cons_succ, List.getElem_toArray, List.getElem_cons_succ, List.getElem_cons_zero])
        refine wpAnyH_take (i := 13) (v := ?v13_233) rfl (by kernel_rfl) (by kernel_rfl) (by kernel_rfl) (fun _ _ _ h => h) (Or.inl (And.intro (by kernel_rfl) ?q13_233)) hS0 ?r13_233; (case q13_233 => (intro w hx; (try dsimp only); (try go_simp); (try with_reducible rfl)))
        (try simp only [Act.put, List.setIfInBounds_toArray, List.set_cons_zero, List.set_cons_succ, List.getElem_toArray, List.getElem_cons_succ, List.getElem_cons_zero])
        refine wpAnyH_take (i := 14) (v := ?v14_234) rfl (by kernel_rfl) (by kernel_rfl) (by kernel_rfl) (fun _ _ _ h => h) (Or.inl (And.intro (by kernel_rfl) ?q14_234)) hS0 ?r14_234; (case q14_234 => (intro w hx; (try dsimp only); (try go_simp); (try with_reducible rfl)))
        (try simp only [Act.put, List.setIfInBounds_toArray, List.set_cons_zero, List.set_cons_succ, List.getElem_toArray, List.getElem_cons_succ, List.getElem_cons_zero])
        refine wpAnyH_take (i := 15) (v := ?v15_235) rfl (by kernel_rfl) (by kernel_rfl) (by kernel_rfl) (fun _ _ _ h => h) (Or.inl (And.intro (by kernel_rfl) ?q15_235)) hS0 ?r15_235; (case q15_235 => (intro w hx; (try dsimp only); (try go_simp); (try with_reducible rfl)))
        (try simp only [Act.put, List.setIfInBounds_toArray, List.set_cons_zero, List.set_cons_succ, List.getElem_toArray, List.getElem_cons_succ, List.getElem_cons_zero])
        refine wpAnyH_take (i := 16) (v := ?v16_236) rfl (by kernel_rfl) (by kernel_rfl) (by kernel_rfl) (fun _ _ _ h => h) (Or.inl (And.intro (by kernel_rfl) ?q16_236)) hS0 ?r16_236; (case q16_236 => (intro w hx; (try dsimp only); (try go_simp); (try with_reducible rfl)))
        (try simp only [Act.put, List.setIfInBounds_toArray, List.set_cons_zero, List.set_cons_succ, List.getElem_toArray, List.getElem_cons_succ, List.getElem_cons_zero])
        refine wpAnyH_take (i := 17) (v := ?v17_237) rfl (by kernel_rfl) (by kernel_rfl) (by kernel_rfl) (fun _ _ _ h => h) (Or.inl (And.intro (by kernel_rfl) ?q17_237)) hS0 ?r17_237; (case q17_237 => (intro w hx; (try dsimp only); (try go_simp); (try with_reducible rfl)))
        (try simp only [Act.put, List.setIfInBounds_toArray, List.set_cons_zero, List.set_cons_succ, List.getElem_toArray, List.getElem_cons_succ, List.getElem_cons_zero])
        refine wpAnyH_take (i := 18) (v := ?v18_238) rfl (by kernel_rfl) (by kernel_rfl) (by kernel_rfl) (fun _ _ _ h => h) (Or.inl (And.intro (by kernel_rfl) ?q18_238)) hS0 ?r18_238; (case q18_238 => (intro w hx; (try dsimp only); (try go_simp); (try with_reducible rfl)))
        (try simp only [Act.put, List.setIfInBounds_toArray, List.set_cons_zero, List.set_cons_succ, List.getElem_toArray, List.getElem_cons_succ, List.getElem_cons_zero])
        refine wpAnyH_take (i := 19) (v := ?v19_239) rfl (by kernel_rfl) (by kernel_rfl) (by kernel_rfl) (fun _ _ _ h => h) (Or.inl (And.intro (by kernel_rfl) ?q19_239)) hS0 ?r19_239; (case q19_239 => (intro w hx; (try dsimp only); (try go_simp); (try with_reducible rfl)))
        (try simp only [Act.put, List.setIfInBounds_toArray, List.set_cons_zero, List.set_cons_succ, List.getElem_toArray, List.getElem_cons_succ, List.getElem_cons_zero])
        refine wpAnyH_take (i := 20) (v := ?v20_240) rfl (by kernel_rfl) (by kernel_rfl) (by kernel_rfl) (fun _ _ _ h => h) (Or.inl (And.intro (by kernel_rfl) ?q20_240)) hS0 ?r20_240; (case q20_240 => (intro w hx; (try dsimp only); (try go_simp); (try with_reducible rfl)))
        (try simp only [Act.put, List.setIfInBounds_toArray, List.set_cons_zero, List.set_cons_succ, List.getElem_toArray, List.getElem_cons_succ, List.getElem_cons_zero])
        all_goals refine wpAnyH_done (by kernel_rfl) ?_ _
        go_wp2_with fail
        go_ret
        exact ⟨ret_bool (by rw [HV.out]; simp [y1, y2, y3]), bstep L2.out hS0⟩
  case false.true =>
    have hv2 := HV.out
    simp only [Bool.and_false, Bool.false_and, Bool.and_true, Bool.not_false, Bool.true_and] at hv2
    have HV := hide hv2
    clear hv2
    go_wp2_with fail
    cases z1 with
    | false =>
      refine wp_region_held_drew (S := fun W => Below w2.heap.size w2 W) (by kernel_rfl) (bb.drew) (fun hS0 => ?_)
      refine wpAnyH_take (i := 0) (v := ?v0_241) rfl (by kernel_rfl) (by kernel_rfl) (by kernel_rfl) (fun _ _ _ h => h) (Or.inl (And.intro (by kernel_rfl) ?q0_241)) hS0 ?r0_241; (case q0_241 => (intro w hx; (try dsimp only); (try go_simp); (try with_reducible rfl)))
      (try simp only [Act.put, List.setIfInBounds_toArray, List.set_cons_zero, List.set_cons_succ, List.getElem_toArray, List.getElem_cons_succ, List.getElem_cons_zero])
      refine wpAnyH_take (i := 1) (v := ?v1_242) rfl (by kernel_rfl) (by kernel_rfl) (by kernel_rfl) (fun _ _ _ h => h) (Or.inl (And.intro (by kernel_rfl) ?q1_242)) hS0 ?r1_242; (case q1_242 => (intro w hx; (try dsimp only); (try go_simp); (try with_reducible rfl)))
      (try simp only [Act.put, List.setIfInBounds_toArray, List.set_cons_zero, List.set_cons_succ, List.getElem_toArray, List.getElem_cons_succ, List.getElem_cons_zero])
      refine wpAnyH_take (i := 3) (v := ?v3_243) rfl (by kernel_rfl) (by kernel_rfl) (by kernel_rfl) (fun _ _ _ h => h) (Or.inl (And.intro (by kernel_rfl) ?q3_243)) hS0 ?r3_243; (case q3_243 => (intro w hx; (try dsimp only); (try go_simp); (try with_reducible rfl)))
      (try simp only [Act.put, List.setIfInBounds_toArray, List.set_cons_zero, List.set_cons_succ, List.getElem_toArray, List.getElem_cons_succ, List.getElem_cons_zero])
      refine wpAnyH_take (i := 4) (v := ?v4_244) rfl (by kernel_rfl) (by kernel_rfl) (by kernel_rfl) (fun _ _ _ h => h) (Or.inl (And.intro (by kernel_rfl) ?q4_244)) hS0 ?r4_244; (case q4_244 => (intro w hx; (try dsimp only); (try go_simp); (try with_reducible rfl)))
      (try simp only [Act.put, List.setIfInBounds_toArray, List.set_cons_zero, List.set_cons_succ, List.getElem_toArray, List.getElem_cons_succ, List.getElem_cons_zero])
      all_goals refine wpAnyH_ready (rs := [2]) (by kernel_rfl) (by simp) ?_
      all_goals refine AllReadyH.cons rfl (fun K hK => ?_) AllReadyH.nil
      all_goals (rw [if_pos (by kernel_rfl)]; (try simp only [List.getElem_toArray, List.getElem_cons_succ, List.getElem_cons_zero]); go_simp; ((with_reducible refine (CE.out _ (bstep L2.out hS0)).mono ?_); rintro e wq ⟨rfl, bq⟩); (try go_wp2_with fail); refine hK.out _ _ (by (first | with_reducible exact hS0 | exact bstep hS0 bq)) (fun hS0 => ?_); clear hK K; (try simp only [Act.put, List.setIfInBounds_toArray, List.set_cons_zero, List.set_cons_succ, List.getElem_toArray, List.getElem_cons_succ, List.getElem_cons_zero]))
      refine wpAnyH_take (i := 5) (v := ?v5_245) rfl (by kernel_rfl) (by kernel_rfl) (by kernel_rfl) (fun _ _ _ h => h) (Or.inl (And.intro (by kernel_rfl) ?q5_245)) hS0 ?r5_245; (case q5_245 => (intro w hx; (try dsimp only); (try go_simp); (try with_reducible rfl)))
      (try simp only [Act.put, List.setIfInBounds_toArray, List.set_cons_zero, List.set_cons_succ, List.getElem_toArray, List.getElem_cons_succ, List.getElem_cons_zero])
      refine wpAnyH_take (i := 6) (v := ?v6_246) rfl (by kernel_rfl) (by kernel_rfl) (by kernel_rfl) (fun _ _ _ h => h) (Or.inl (And.intro (by kernel_rfl) ?q6_246)) hS0 ?r6_246; (case q6_246 => (intro w hx; (try dsimp only); (try go_simp); (try with_reducible rfl)))
      (try simp only [Act.put, List.setIfInBounds_toArray, List.set_cons_zero, List.set_cons_succ, List.getElem_toArray, List.getElem_cons_succ, List.getElem_cons_zero])
      refine wpAnyH_take (i := 7) (v := undef) rfl (by kernel_rfl) (by kernel_rfl) (by kernel_rfl) (fun _ _ _ h => h) (Or.inr (And.intro (by kernel_rfl) rfl)) hS0 ?r7_247
      (try simp only [Act.put, List.setIfInBounds_toArray, List.set_cons_zero, List.set_cons_succ, List.getElem_toArray, List.getElem_cons_succ, List.getElem_cons_zero])
      refine wpAnyH_take (i := 8) (v := undef) rfl (by kernel_rfl) (by kernel_rfl) (by kernel_rfl) (fun _ _ _ h => h) (Or.inr (And.intro (by kernel_rfl) rfl)) hS0 ?r8_248
      (try simp only [Act.put, List.setIfInBounds_toArray, List.set_cons_zero, List.set_cons_succ, List.getElem_toArray, List.getElem_cons_succ, List.getElem_cons_zero])
      refine wpAnyH_take (i := 9) (v := undef) rfl (by kernel_rfl) (by kernel_rfl) (by kernel_rfl) (fun _ _ _ h => h) (Or.inr (And.intro (by kernel_rfl) rfl)) hS0 ?r9_249
      (try simp only [Act.put, List.setIfInBounds_toArray, List.set_cons_zero, List.set_cons_succ, List.getElem_toArray, List.getElem_cons_succ, List.getElem_cons_zero])
      refine wpAnyH_take (i := 10) (v := undef) rfl (by kernel_rfl) (by kernel_rfl) (by kernel_rfl) (fun _ _ _ h => h) (Or.inr (And.intro (by kernel_rfl) rfl)) hS0 ?r10_250
      (try simp only [Act.put, List.setIfInBounds_toArray, List.set_cons_zero, List.set_cons_succ, List.getElem_toArray, List.getElem_cons_succ, List.getElem_cons_zero])
      refine wpAnyH_take (i := 11) (v := undef) rfl (by kernel_rfl) (by kernel_rfl) (by kernel_rfl) (fun _ _ _ h => h) (Or.inr (And.intro (by kernel_rfl) rfl)) hS0 ?r11_251
      (try simp only [Act.put, List.setIfInBounds_toArray, List.set_cons_zero, List.set_cons_succ, List.getElem_toArray, List.getElem_cons_succ, List.getElem_cons_zero])
      refine wpAnyH_take (i := 12) (v := ?v12_252) rfl (by kernel_rfl) (by kernel_rfl) (by kernel_rfl) (fun _ _ _ h => h) (Or.inl (And.intro (by kernel_rfl) ?q12_252)) hS0 ?r12_252; (case q12_252 => (intro w hx; (try dsimp only); (try go_simp); (try with_reducible rfl)))
      (try simp only [Act.put, List.setIfInBounds_toArray, List.set_cons_zero, List.set_cons_succ, List.getElem_toArray, List.getElem_cons_succ, List.getElem_cons_zero])
      refine wpAnyH_take (i := 13) (v := ?v13_253) rfl (by kernel_rfl) (by kernel_rfl) (by kernel_rfl) (fun _ _ _ h => h) (Or.inl (And.intro (by kernel_rfl) ?q13_253)) hS0 ?r13_253; (case q13_253 => (intro w hx; (try dsimp only); (try go_simp); (try with_reducible rfl)))
      (try simp only [Act.put, List.setIfInBounds_toArray, List.set_cons_zero, List.set_cons_succ, List.getElem_toArray, List.getElem_cons_succ, List.getElem_cons_zero])
      refine wpAnyH_take (i := 14) (v := undef) rfl (by kernel_rfl) (by kernel_rfl) (by kernel_rfl) (fun _ _ _ h => h) (Or.inr (And.intro (by kernel_rfl) rfl)) hS0 ?r14_254
      (try simp only [Act.put, List.setIfInBounds_toArray, List.set_cons_zero, List.set_cons_succ, List.getElem_toArray, List.getElem_cons_succ, List.getElem_cons_zero])
      refine wpAnyH_take (i := 15) (v := undef) rfl (by kernel_rfl) (by kernel_rfl) (by kernel_rfl) (fun _ _ _ h => h) (Or.inr (And.intro (by kernel_rfl) rfl)) hS0 ?r15_255
      (try simp only [Act.put, List.setIfInBounds_toArray, List.set_cons_zero, List.set_cons_succ, List.getElem_toArray, List.getElem_cons_succ, List.getElem_cons_zero])
      refine wpAnyH_take (i := 16) (v := undef) rfl (by kernel_rfl) (by kernel_rfl) (by kernel_rfl) (fun _ _ _ h => h) (Or.inr (And.intro (by kernel_rfl) rfl)) hS0 ?r16_256
      (try simp only [Act.put, List.setIfInBounds_toArray, List.set_cons_zero, List.set_cons_succ, List.getElem_toArray, List.getElem_cons_succ, List.getElem_cons_zero])
      refine wpAnyH_take (i := 17) (v := undef) rfl (by kernel_rfl) (by kernel_rfl) (by kernel_rfl) (fun _ _ _ h => h) (Or.inr (And.intro (by kernel_rfl) rfl)) hS0 ?r17_257
      (try simp only [Act.put, List.setIfInBounds_toArray, List.set_cons_zero, List.set_cons_succ, List.getElem_toArray, List.getElem_cons_succ, List.getElem_cons_zero])
      refine wpAnyH_take (i := 18) (v := undef) rfl (by kernel_rfl) (by kernel_rfl) (by kernel_rfl) (fun _ _ _ h => h) (Or.inr (And.intro (by kernel_rfl) rfl)) hS0 ?r18_258
      (try simp only [Act.put, List.setIfInBounds_toArray, List.set_cons_zero, List.set_cons_succ, List.getElem_toArray, List.getElem_cons_succ, List.getElem_cons_zero])
      refine wpAnyH_take (i := 19) (v := ?v19_259) rfl (by kernel_rfl) (by kernel_rfl) (by kernel_rfl) (fun _ _ _ h => h) (Or.inl (And.intro (by kernel_rfl) ?q19_259)) hS0 ?r19_259; (case q19_259 => (intro w hx; (try dsimp only); (try go_simp); (try with_reducible rfl)))
      (try simp only [Act.put, List.setIfInBounds_toArray, List.set_cons_zero, List.set_cons_succ, List.getElem_toArray, List.getElem_cons_succ, List.getElem_cons_zero])
      refine wpAnyH_take (i := 20) (v := ?v20_260) rfl (by kernel_rfl) (by kernel_rfl) (by kernel_rfl) (fun _ _ _ h => h) (Or.inl (And.intro (by kernel_rfl) ?q20_260)) hS0 ?r20_260; (case q20_260 => (intro w hx; (try dsimp only); (try go_simp); (try with_reducible rfl)))
      (try simp only [Act.put, List.setIfInBounds_toArray, List.set_cons_zero, List.set_cons_succ, List.getElem_toArray, List.getElem_cons_succ, List.getElem_cons_zero])
      all_goals refine wpAnyH_done (by kernel_rfl) ?_ _
      go_wp2_with fail
      go_ret
      exact ⟨ret_bool (by rw [HV.out]; simp [y1, y2, y3]), bstep L2.out hS0⟩
    | true =>
      cases z2 with
      | false =>
        refine wp_region_held_drew (S := fun W => Below w2.heap.size w2 W) (by kernel_rfl) (bb.drew) (fun hS0 => ?_)
        refine wpAnyH_take (i := 0) (v := ?v0_261) rfl (by kernel_rfl) (by kernel_rfl) (by kernel_rfl) (fun _ _ _ h => h) (Or.inl (And.intro (by kernel_rfl) ?q0_261)) hS0 ?r0_261; (case q0_261 => (intro w hx; (try dsimp only); (try go_simp); (try with_reducible rfl)))
        (try simp only [Act.put, List.setIfInBounds_toArray, List.set_cons_zero, List.set_cons_succ, List.getElem_toArray, List.getElem_cons_succ, List.getElem_cons_zero])
        refine wpAnyH_take (i := 1) (v := ?v1_262) rfl (by kernel_rfl) (by kernel_rfl) (by kernel_rfl) (fun _ _ _ h => h) (Or.inl (And.intro (by kernel_rfl) ?q1_262)) hS0 ?r1_262; (case q1_262 => (intro w hx; (try dsimp only); (try go_simp); (try with_reducible rfl)))
        (try simp only [Act.put, List.setIfInBounds_toArray, List.set_cons_zero, List.set_cons_succ, List.getElem_toArray, List.getElem_cons_succ, List.getElem_cons_zero])
        refine wpAnyH_take (i := 3) (v := ?v3_263) rfl (by kernel_rfl) (by kernel_rfl) (by kernel_rfl) (fun _ _ _ h => h) (Or.inl (And.intro (by kernel_rfl) ?q3_263)) hS0 ?r3_263; (case q3_263 => (intro w hx; (try dsimp only); (try go_simp); (try with_reducible rfl)))
        (try simp only [Act.put, List.setIfInBounds_toArray, List.set_cons_zero, List.set_cons_succ, List.getElem_toArray, List.getElem_cons_succ, List.getElem_cons_zero])
        refine wpAnyH_take (i := 4) (v := ?v4_264) rfl (by kernel_rfl) (by kernel_rfl) (by kernel_rfl) (fun _ _ _ h => h) (Or.inl (And.intro (by kernel_rfl) ?q4_264)) hS0 ?r4_264; (case q4_264 => (intro w hx; (try dsimp only); (try go_simp); (try with_reducible rfl)))
        (try simp only [Act.put, List.setIfInBounds_toArray, List.set_cons_zero, List.set_cons_succ, List.getElem_toArray, List.getElem_cons_succ, List.getElem_cons_zero])
        all_goals refine wpAnyH_ready (rs := [2]) (by kernel_rfl) (by simp) ?_
        all_goals refine AllReadyH.cons rfl (fun K hK => ?_) AllReadyH.nil
        all_goals (rw [if_pos (by kernel_rfl)]; (try simp only [List.getElem_toArray, List.getElem_cons_succ, List.getElem_cons_zero]); go_simp; ((with_reducible refine (CE.out _ (bstep L2.out hS0)).mono ?_); rintro e wq ⟨rfl, bq⟩); (try go_wp2_with fail); refine hK.out _ _ (by (first | with_reducible exact hS0 | exact bstep hS0 bq)) (fun hS0 => ?_); clear hK K; (try simp only [Act.put, List.setIfInBounds_toArray, List.set_cons_zero, List.set_cons_succ, List.getElem_toArray, List.getElem_cons_succ, List.getElem_cons_zero]))
        refine wpAnyH_take (i := 5) (v := ?v5_265) rfl (by kernel_rfl) (by kernel_rfl) (by kernel_rfl) (fun _ _ _ h => h) (Or.inl (And.intro (by kernel_rfl) ?q5_265)) hS0 ?r5_265; (case q5_265 => (intro w hx; (try dsimp only); (try go_simp); (try with_reducible rfl)))
        (try simp only [Act.put, List.setIfInBounds_toArray, List.set_cons_zero, List.set_cons_succ, List.getElem_toArray, List.getElem_cons_succ, List.getElem_cons_zero])
        refine wpAnyH_take (i := 6) (v := ?v6_266) rfl (by kernel_rfl) (by kernel_rfl) (by kernel_rfl) (fun _ _ _ h => h) (Or.inl (And.intro (by kernel_rfl) ?q6_266)) hS0 ?r6_266; (case q6_266 => (intro w hx; (try dsimp only); (try go_simp); (try with_reducible rfl)))
        (try simp only [Act.put, List.setIfInBounds_toArray, List.set_cons_zero, List.set_cons_succ, List.getElem_toArray, List.getElem_cons_succ, List.getElem_cons_zero])
        refine wpAnyH_take (i := 7) (v := ?v7_267) rfl (by kernel_rfl) (by kernel_rfl) (by kernel_rfl) (fun _ _ _ h => h) (Or.inl (And.intro (by kernel_rfl) ?q7_267)) hS0 ?r7_267; (case q7_267 => (intro w hx; (try dsimp only); (try go_simp); (try with_reducible rfl)))
        (try simp only [Act.put, List.setIfInBounds_toArray, List.set_cons_zero, List.set_cons_succ, List.getElem_toArray, List.getElem_cons_succ, List.getElem_cons_zero])
        refine wpAnyH_take (i := 8) (v := ?v8_268) rfl (by kernel_rfl) (by kernel_rfl) (by kernel_rfl) (fun _ _ _ h => h) (Or.inl (And.intro (by kernel_rfl) ?q8_268)) hS0 ?r8_268; (case q8_268 => (intro w hx; (try dsimp only); (try go_simp); (try with_reducible rfl)))
        (try simp only [Act.put, List.setIfInBounds_toArray, List.set_cons_zero, List.set_cons_succ, List.getElem_toArray, List.getElem_cons_succ, List.getElem_cons_zero])
        refine wpAnyH_take (i := 9) (v := ?v9_269) rfl (by kernel_rfl) (by kernel_rfl) (by kernel_rfl) (fun _ _ _ h => h) (Or.inl (And.intro (by kernel_rfl) ?q9_269)) hS0 ?r9_269; (case q9_269 => (intro w hx; (try dsimp only); (try go_simp); (try with_reducible rfl)))
        (try simp only [Act.put, List.setIfInBounds_toArray, List.set_cons_zero, List.set_cons_succ, List.getElem_toArray, List.getElem_cons_succ, List.getElem_cons_zero])
        refine wpAnyH_take (i := 10) (v := ?v10_270) rfl (by kernel_rfl) (by kernel_rfl) (by kernel_rfl) (fun _ _ _ h => h) (Or.inl (And.intro (by kernel_rfl) ?q10_270)) hS0 ?r10_270; (case q10_270 => (intro w hx; (try dsimp only); (try go_simp); (try with_reducible rfl)))
        (try simp only [Act.put, List.setIfInBounds_toArray, List.set_cons_zero, List.set_cons_succ, List.getElem_toArray, List.getElem_cons_succ, List.getElem_cons_zero])
        refine wpAnyH_take (i := 11) (v := ?v11_271) rfl (by kernel_rfl) (by kernel_rfl) (by kernel_rfl) (fun _ _ _ h => h) (Or.inl (And.intro (by kernel_rfl) ?q11_271)) hS0 ?r11_271; (case q11_271 => (intro w hx; (try dsimp only); (try go_simp); (try with_reducible rfl)))
        (try simp only [Act.put, List.setIfInBounds_toArray, List.set_cons_zero, List.set_cons_succ, List.getElem_toArray, List.getElem_cons_succ, List.getElem_cons_zero])
        refine wpAnyH_take (i := 12) (v := ?v12_272) rfl (by kernel_rfl) (by kernel_rfl) (by kernel_rfl) (fun _ _ _ h => h) (Or.inl (And.intro (by kernel_rfl) ?q12_272)) hS0 ?r12_272; (case q12_272 => (intro w hx; (try dsimp only); (try go_simp); (try with_reducible rfl)))
        (try simp only [Act.put, List.setIfInBounds_toArray, List.set_cons_zero, List.set_cons_succ, List.getElem_toArray, List.getElem_cons_succ, List.getElem_cons_zero])
        refine wpAnyH_take (i := 13) (v := ?v13_273) rfl (by kernel_rfl) (by kernel_rfl) (by kernel_rfl) (fun _ _ _ h => h) (Or.inl (And.intro (by kernel_rfl) ?q13_273)) hS0 ?r13_273; (case q13_273 => (intro w hx; (try dsimp only); (try go_simp); (try with_reducible rfl)))
        (try simp only [Act.put, List.setIfInBounds_toArray, List.set_cons_zero, List.set_cons_succ, List.getElem_toArray, List.getElem_cons_succ, List.getElem_cons_zero])
        refine wpAnyH_take (i := 14) (v := undef) rfl (by kernel_rfl) (by kernel_rfl) (by kernel_rfl) (fun _ _ _ h => h) (Or.inr (And.intro (by kernel_rfl) rfl)) hS0 ?r14_274
        (try simp only [Act.put, List.setIfInBounds_toArray, List.set_cons_zero, List.set_cons_succ, List.getElem_toArray, List.getElem_cons_succ, List.getElem_cons_zero])
        refine wpAnyH_take (i := 15) (v := undef) rfl (by kernel_rfl) (by kernel_rfl) (by kernel_rfl) (fun _ _ _ h => h) (Or.inr (And.intro (by kernel_rfl) rfl)) hS0 ?r15_275
        (try simp only [Act.put, List.setIfInBounds_toArray, List.set_cons_zero, List.set_cons_succ, List.getElem_toArray, List.getElem_cons_succ, List.getElem_cons_zero])
        refine wpAnyH_take (i := 16) (v := undef) rfl (by kernel_rfl) (by kernel_rfl) (by kernel_rfl) (fun _ _ _ h => h) (Or.inr (And.intro (by kernel_rfl) rfl)) hS0 ?r16_276
        (try simp only [Act.put, List.setIfInBounds_toArray, List.set_cons_zero, List.set_cons_succ, List.getElem_toArray, List.getElem_cons_succ, List.getElem_cons_zero])
        refine wpAnyH_take (i := 17) (v := undef) rfl (by kernel_rfl) (by kernel_rfl) (by kernel_rfl) (fun _ _ _ h => h) (Or.inr (And.intro (by kernel_rfl) rfl)) hS0 ?r17_277
        (try simp only [Act.put, List.setIfInBounds_toArray, List.set_cons_zero, List.set_cons_succ, List.getElem_toArray, List.getElem_cons_succ, List.getElem_cons_zero])
        refine wpAnyH_take (i := 18) (v := undef) rfl (by kernel_rfl) (by kernel_rfl) (by kernel_rfl) (fun _ _ _ h => h) (Or.inr (And.intro (by kernel_rfl) rfl)) hS0 ?r18_278
        (try simp only [Act.put, List.setIfInBounds_toArray, List.set_cons_zero, List.set_cons_succ, List.getElem_toArray, List.getElem_cons_succ, List.getElem_cons_zero])
        refine wpAnyH_take (i := 19) (v := ?v19_279) rfl (by kernel_rfl) (by kernel_rfl) (by kernel_rfl) (fun _ _ _ h => h) (Or.inl (And.intro (by kernel_rfl) ?q19_279)) hS0 ?r19_279; (case q19_279 => (intro w hx; (try dsimp only); (try go_simp); (try with_reducible rfl)))
        (try simp only [Act.put, List.setIfInBounds_toArray, List.set_cons_zero, List.set_cons_succ, List.getElem_toArray, List.getElem_cons_succ, List.getElem_cons_zero])
        refine wpAnyH_take (i := 20) (v := ?v20_280) rfl (by kernel_rfl) (by kernel_rfl) (by kernel_rfl) (fun _ _ _ h => h) (Or.inl (And.intro (by kernel_rfl) ?q20_280)) hS0 ?r20_280; (case q20_280 => (intro w hx; (try dsimp only); (try go_simp); (try with_reducible rfl)))
        (try simp only [Act.put, List.setIfInBounds_toArray, List.set_cons_zero, List.set_cons_succ, List.getElem_toArray, List.getElem_cons_succ, List.getElem_cons_zero])
        all_goals refine wpAnyH_done (by kernel_rfl) ?_ _
        go_wp2_with fail
        go_ret
        exact ⟨ret_bool (by rw [HV.out]; simp [y1, y2, y3]), bstep L2.out hS0⟩
      | true =>
        refine wp_region_held_drew (S := fun W => Below w2.heap.size w2 W) (by kernel_rfl) (bb.drew) (fun hS0 => ?_)
        refine wpAnyH_take (i := 0) (v := ?v0_281) rfl (by kernel_rfl) (by kernel_rfl) (by kernel_rfl) (fun _ _ _ h => h) (Or.inl (And.intro (by kernel_rfl) ?q0_281)) hS0 ?r0_281; (case q0_281 => (intro w hx; (try dsimp only); (try go_simp); (try with_reducible rfl)))
        (try simp only [Act.put, List.setIfInBounds_toArray, List.set_cons_zero, List.set_cons_succ, List.getElem_toArray, List.getElem_cons_succ, List.getElem_cons_zero])
        refine wpAnyH_take (i := 1) (v := ?v1_282) rfl (by kernel_rfl) (by kernel_rfl) (by kernel_rfl) (fun _ _ _ h => h) (Or.inl (And.intro (by kernel_rfl) ?q1_282)) hS0 ?r1_282; (case q1_282 => (intro w hx; (try dsimp only); (try go_simp); (try with_reducible rfl)))
        (try simp only [Act.put, List.setIfInBounds_toArray, List.set_cons_zero, List.set_cons_succ, List.getElem_toArray, List.getElem_cons_succ, List.getElem_cons_zero])
        refine wpAnyH_take (i := 3) (v := ?v3_283) rfl (by kernel_rfl) (by kernel_rfl) (by kernel_rfl) (fun _ _ _ h => h) (Or.inl (And.intro (by kernel_rfl) ?q3_283)) hS0 ?r3_283; (case q3_283 => (intro w hx; (try dsimp only); (try go_simp); (try with_reducible rfl)))
        (try simp only [Act.put, List.setIfInBounds_toArray, List.set_cons_zero, List.set_cons_succ, List.getElem_toArray, List.getElem_cons_succ, List.getElem_cons_zero])
        refine wpAnyH_take (i := 4) (v := ?v4_284) rfl (by kernel_rfl) (by kernel_rfl) (by kernel_rfl) (fun _ _ _ h => h) (Or.inl (And.intro (by kernel_rfl) ?q4_284)) hS0 ?r4_284; (case q4_284 => (intro w hx; (try dsimp only); (try go_simp); (try with_reducible rfl)))
        (try simp only [Act.put, List.setIfInBounds_toArray, List.set_cons_zero, List.set_cons_succ, List.getElem_toArray, List.getElem_cons_succ, List.getElem_cons_zero])
        all_goals refine wpAnyH_ready (rs := [2]) (by kernel_rfl) (by simp) ?_
        all_goals refine AllReadyH.cons rfl (fun K hK => ?_) AllReadyH.nil
        all_goals (rw [if_pos (by kernel_rfl)]; (try simp only [List.getElem_toArray, List.getElem_cons_succ, List.getElem_cons_zero]); go_simp; ((with_reducible refine (CE.out _ (bstep L2.out hS0)).mono ?_); rintro e wq ⟨rfl, bq⟩); (try go_wp2_with fail); refine hK.out _ _ (by (first | with_reducible exact hS0 | exact bstep hS0 bq)) (fun hS0 => ?_); clear hK K; (try simp only [Act.put, List.setIfInBounds_toArray, List.set_cons_zero, List.set_cons_succ, List.getElem_toArray, List.getElem_cons_succ, List.getElem_cons_zero]))
        refine wpAnyH_take (i := 5) (v := ?v5_285) rfl (by kernel_rfl) (by kernel_rfl) (by kernel_rfl) (fun _ _ _ h => h) (Or.inl (And.intro (by kernel_rfl) ?q5_285)) hS0 ?r5_285; (case q5_285 => (intro w hx; (try dsimp only); (try go_simp); (try with_reducible rfl)))
        (try simp only [Act.put, List.setIfInBounds_toArray, List.set_cons_zero, List.set_cons_succ, List.getElem_toArray, List.getElem_cons_succ, List.getElem_cons_zero])
        refine wpAnyH_take (i := 6) (v := ?v6_286) rfl (by kernel_rfl) (by kernel_rfl) (by kernel_rfl) (fun _ _ _ h => h) (Or.inl (And.intro (by kernel_rfl) ?q6_286)) hS0 ?r6_286; (case q6_286 => (intro w hx; (try dsimp only); (try go_simp); (try with_reducible rfl)))
        (try simp only [Act.put, List.setIfInBounds_toArray, List.set_cons_zero, List.set_cons_succ, List.getElem_toArray, List.getElem_cons_succ, List.getElem_cons_zero])
        refine wpAnyH_take (i := 7) (v := ?v7_287) rfl (by kernel_rfl) (by kernel_rfl) (by kernel_rfl) (fun _ _ _ h => h) (Or.inl (And.intro (by kernel_rfl) ?q7_287)) hS0 ?r7_287; (case q7_287 => (intro w hx; (try dsimp only); (try go_simp); (try with_reducible rfl)))
        (try simp only [Act.put, List.setIfInBounds_toArray, List.set_cons_zero, List.set_cons_succ, List.getElem_toArray, List.getElem_cons_succ, List.getElem_cons_zero])
        refine wpAnyH_take (i := 8) (v := ?v8_288) rfl (by kernel_rfl) (by kernel_rfl) (by kernel_rfl) (fun _ _ _ h => h) (Or.inl (And.intro (by kernel_rfl) ?q8_288)) hS0 ?r8_288; (case q8_288 => (intro w hx; (try dsimp only); (try go_simp); (try with_reducible rfl)))
        (try simp only [Act.put, List.setIfInBounds_toArray, List.set_cons_zero, List.set_cons_succ, List.getElem_toArray, List.getElem_cons_succ, List.getElem_cons_zero])
        refine wpAnyH_take (i := 9) (v := ?v9_289) rfl (by kernel_rfl) (by kernel_rfl) (by kernel_rfl) (fun _ _ _ h => h) (Or.inl (And.intro (by kernel_rfl) ?q9_289)) hS0 ?r9_289; (case q9_289 => (intro w hx; (try dsimp only); (try go_simp); (try with_reducible rfl)))
        (try simp only [Act.put, List.setIfInBounds_toArray, List.set_cons_zero, List.set_cons_succ, List.getElem_toArray, List.getElem_cons_succ, List.getElem_cons_zero])
        refine wpAnyH_take (i := 10) (v := ?v10_290) rfl (by kernel_rfl) (by kernel_rfl) (by kernel_rfl) (fun _ _ _ h => h) (Or.inl (And.intro (by kernel_rfl) ?q10_290)) hS0 ?r10_290; (case q10_290 => (intro w hx; (try dsimp only); (try go_simp); (try with_reducible rfl)))
        (try simp only [Act.put, List.setIfInBounds_toArray, List.set_cons_zero, List.set_cons_succ, List.getElem_toArray, List.getElem_cons_succ, List.getElem_cons_zero])
        refine wpAnyH_take (i := 11) (v := ?v11_291) rfl (by kernel_rfl) (by kernel_rfl) (by kernel_rfl) (fun _ _ _ h => h) (Or.inl (And.intro (by kernel_rfl) ?q11_291)) hS0 ?r11_291; (case q11_291 => (intro w hx; (try dsimp only); (try go_simp); (try with_reducible rfl)))
        (try simp only [Act.put, List.setIfInBounds_toArray, List.set_cons_zero, List.set_cons_succ, List.getElem_toArray, List.getElem_cons_succ, List.getElem_cons_zero])
        refine wpAnyH_take (i := 12) (v := ?v12_292) rfl (by kernel_rfl) (by kernel_rfl) (by kernel_rfl) (fun _ _ _ h => h) (Or.inl (And.intro (by kernel_rfl) ?q12_292)) hS0 ?r12_292; (case q12_292 => (intro w hx; (try dsimp only); (try go_simp); (try with_reducible rfl)))
        (try simp only [Act.put, List.setIfInBounds_toArray, List.set_cons_zero, List.set_cons_succ, List.getElem_toArray, List.getElem_cons_succ, List.getElem_cons_zero])
        refine wpAnyH_take (i := 13) (v := ?v13_293) rfl (by kernel_rfl) (by kernel_rfl) (by kernel_rfl) (fun _ _ _ h => h) (Or.inl (And.intro (by kernel_rfl) ?q13_293)) hS0 ?r13_293; (case q13_293 => (intro w hx; (try dsimp only); (try go_simp); (try with_reducible rfl)))
        (try simp only [Act.put, List.setIfInBounds_toArray, List.set_cons_zero, List.set_cons_succ, List.getElem_toArray, List.getElem_cons_succ, List.getElem_cons_zero])
        refine wpAnyH_take (i := 14) (v := ?v14_294) rfl (by kernel_rfl) (by kernel_rfl) (by kernel_rfl) (fun _ _ _ h => h) (Or.inl (And.intro (by kernel_rfl) ?q14_294)) hS0 ?r14_294; (case q14_294 => (intro w hx; (try dsimp only); (try go_simp); (try with_reducible rfl)))
        (try simp only [Act.put, List.setIfInBounds_toArray, List.set_cons_zero, List.set_cons_succ, List.getElem_toArray, List.getElem_cons_succ, List.getElem_cons_zero])
        refine wpAnyH_take (i := 15) (v := ?v15_295) rfl (by kernel_rfl) (by kernel_rfl) (by kernel_rfl) (fun _ _ _ h => h) (Or.inl (And.intro (by kernel_rfl) ?q15_295)) hS0 ?r15_295; (case q15_295 => (intro w hx; (try dsimp only); (try go_simp); (try with_reducible rfl)))
        (try simp only [Act.put, List.setIfInBounds_toArray, List.set_cons_zero, List.set_cons_succ, List.getElem_toArray, List.getElem_cons_succ, List.getElem_cons_zero])
        refine wpAnyH_take (i := 16) (v := ?v16_296) rfl (by kernel_rfl) (by kernel_rfl) (by kernel_rfl) (fun _ _ _ h => h) (Or.inl (And.intro (by kernel_rfl) ?q16_296)) hS0 ?r16_296; (case q16_296 => (intro w hx; (try dsimp only); (try go_simp); (try with_reducible rfl)))
        (try simp only [Act.put, List.setIfInBounds_toArray, List.set_cons_zero, List.set_cons_succ, List.getElem_toArray, List.getElem_cons_succ, List.getElem_cons_zero])
        refine wpAnyH_take (i := 17) (v := ?v17_297) rfl (by kernel_rfl) (by kernel_rfl) (by kernel_rfl) (fun _ _ _ h => h) (Or.inl (And.intro (by kernel_rfl) ?q17_297)) hS0 ?r17_297; (case q17_297 => (intro w hx; (try dsimp only); (try go_simp); (try with_reducible rfl)))
        (try simp only [Act.put, List.setIfInBounds_toArray, List.set_cons_zero, List.set_cons_succ, List.getElem_toArray, List.getElem_cons_succ, List.getElem_cons_zero])
        refine wpAnyH_take (i := 18) (v := ?v18_298) rfl (by kernel_rfl) (by kernel_rfl) (by kernel_rfl) (fun _ _ _ h => h) (Or.inl (And.intro (by kernel_rfl) ?q18_298)) hS0 ?r18_298; (case q18_298 => (intro w hx; (try dsimp only); (try go_simp); (try with_reducible rfl)))
        (try simp only [Act.put, List.setIfInBounds_toArray, List.set_cons_zero, List.set_cons_succ, List.getElem_toArray, List.getElem_cons_succ, List.getElem_cons_zero])
        refine wpAnyH_take (i := 19) (v := ?v19_299) rfl (by kernel_rfl) (by kernel_rfl) (by kernel_rfl) (fun _ _ _ h => h) (Or.inl (And.intro (by kernel_rfl) ?q19_299)) hS0 ?r19_299; (case q19_299 => (intro w hx; (try dsimp only); (try go_simp); (try with_reducible rfl)))
        (try simp only [Act.put, List.setIfInBounds_toArray, List.set_cons_zero, List.set_cons_succ, List.getElem_toArray, List.getElem_cons_succ, List.getElem_cons_zero])
        refine wpAnyH_take (i := 20) (v := ?v20_300) rfl (by kernel_rfl) (by kernel_rfl) (by kernel_rfl) (fun _ _ _ h => h) (Or.inl (And.intro (by kernel_rfl) ?q20_300)) hS0 ?r20_300; (case q20_300 => (intro w hx; (try dsimp only); (try go_simp); (try with_reducible rfl)))
        (try simp only [Act.put, List.setIfInBounds_toArray, List.set_cons_zero, List.set_cons_succ, List.getElem_toArray, List.getElem_cons_succ, List.getElem_cons_zero])
        all_goals refine wpAnyH_done (by kernel_rfl) ?_ _
        go_wp2_with fail
        go_ret
        exact ⟨ret_bool (by rw [HV.out]; simp [y1, y2, y3]), bstep L2.out hS0⟩
  case false.false =>
    have hv2 := HV.out
    simp only [Bool.and_false, Bool.false_and, Bool.and_true, Bool.not_false, Bool.true_and] at hv2
    have HV := hide hv2
    clear hv2
    go_wp2_with fail
    cases z1 with
    | false =>
      refine wp_region_held_drew (S := fun W => Below w2.heap.size w2 W) (by kernel_rfl) (bb.drew) (fun hS0 => ?_)
      refine wpAnyH_take (i := 0) (v := ?v0_301) rfl (by kernel_rfl) (by kernel_rfl) (by kernel_rfl) (fun _ _ _ h => h) (Or.inl (And.intro (by kernel_rfl) ?q0_301)) hS0 ?r0_301; (case q0_301 => (intro w hx; (try dsimp only); (try go_simp); (try with_reducible rfl)))
      (try simp only [Act.put, List.setIfInBounds_toArray, List.set_cons_zero, List.set_cons_succ, List.getElem_toArray, List.getElem_cons_succ, List.getElem_cons_zero])
      refine wpAnyH_take (i := 1) (v := ?v1_302) rfl (by kernel_rfl) (by kernel_rfl) (by kernel_rfl) (fun _ _ _ h => h) (Or.inl (And.intro (by kernel_rfl) ?q1_302)) hS0 ?r1_302; (case q1_302 => (intro w hx; (try dsimp only); (try go_simp); (try with_reducible rfl)))
      (try simp only [Act.put, List.setIfInBounds_toArray, List.set_cons_zero, List.set_cons_succ, List.getElem_toArray, List.getElem_cons_succ, List.getElem_cons_zero])
      refine wpAnyH_take (i := 3) (v := ?v3_303) rfl (by kernel_rfl) (by kernel_rfl) (by kernel_rfl) (fun _ _ _ h => h) (Or.inl (And.intro (by kernel_rfl) ?q3_303)) hS0 ?r3_303; (case q3_303 => (intro w hx; (try dsimp only); (try go_simp); (try with_reducible rfl)))
      (try simp only [Act.put, List.setIfInBounds_toArray, List.set_cons_zero, List.set_cons_succ, List.getElem_toArray, List.getElem_cons_succ, List.getElem_cons_zero])
      refine wpAnyH_take (i := 4) (v := ?v4_304) rfl (by kernel_rfl) (by kernel_rfl) (by kernel_rfl) (fun _ _ _ h => h) (Or.inl (And.intro (by kernel_rfl) ?q4_304)) hS0 ?r4_304; (case q4_304 => (intro w hx; (try dsimp only); (try go_simp); (try with_reducible rfl)))
      (try simp only [Act.put, List.setIfInBounds_toArray, List.set_cons_zero, List.set_cons_succ, List.getElem_toArray, List.getElem_cons_succ, List.getElem_cons_zero])
      all_goals refine wpAnyH_ready (rs := [2]) (by kernel_rfl) (by simp) ?_
      all_goals refine AllReadyH.cons rfl (fun K hK => ?_) AllReadyH.nil
      all_goals (rw [if_pos (by kernel_rfl)]; (try simp only [List.getElem_toArray, List.getElem_cons_succ, List.getElem_cons_zero]); go_simp; ((with_reducible refine (CE.out _ (bstep L2.out hS0)).mono ?_); rintro e wq ⟨rfl, bq⟩); (try go_wp2_with fail); refine hK.out _ _ (by (first | with_reducible exact hS0 | exact bstep hS0 bq)) (fun hS0 => ?_); clear hK K; (try simp only [Act.put, List.setIfInBounds_toArray, List.set_cons_zero, List.set_cons_succ, List.getElem_toArray, List.getElem_cons_succ, List.getElem_cons_zero]))
      refine wpAnyH_take (i := 5) (v := ?v5_305) rfl (by kernel_rfl) (by kernel_rfl) (by kernel_rfl) (fun _ _ _ h => h) (Or.inl (And.intro (by kernel_rfl) ?q5_305)) hS0 ?r5_305; (case q5_305 => (intro w hx; (try dsimp only); (try go_simp); (try with_reducible rfl)))
      (try simp only [Act.put, List.setIfInBounds_toArray, List.set_cons_zero, List.set_cons_succ, List.getElem_toArray, List.getElem_cons_succ, List.getElem_cons_zero])
      refine wpAnyH_take (i := 6) (v := ?v6_306) rfl (by kernel_rfl) (by kernel_rfl) (by kernel_rfl) (fun _ _ _ h => h) (Or.inl (And.intro (by kernel_rfl) ?q6_306)) hS0 ?r6_306; (case q6_306 => (intro w hx; (try dsimp only); (try go_simp); (try with_reducible rfl)))
      (try simp only [Act.put, List.setIfInBounds_toArray, List.set_cons_zero, List.set_cons_succ, List.getElem_toArray, List.getElem_cons_succ, List.getElem_cons_zero])
      refine wpAnyH_take (i := 7) (v := undef) rfl (by kernel_rfl) (by kernel_rfl) (by kernel_rfl) (fun _ _ _ h => h) (Or.inr (And.intro (by kernel_rfl) rfl)) hS0 ?r7_307
      (try simp only [Act.put, List.setIfInBounds_toArray, List.set_cons_zero, List.set_cons_succ, List.getElem_toArray, List.getElem_cons_succ, List.getElem_cons_zero])
      refine wpAnyH_take (i := 8) (v := undef) rfl (by kernel_rfl) (by kernel_rfl) (by kernel_rfl) (fun _ _ _ h => h) (Or.inr (And.intro (by kernel_rfl) rfl)) hS0 ?r8_308
      (try simp only [Act.put, List.setIfInBounds_toArray, List.set_cons_zero, List.set_cons_succ, List.getElem_toArray, List.getElem_cons_succ, List.getElem_cons_zero])
      refine wpAnyH_take (i := 9) (v := undef) rfl (by kernel_rfl) (by kernel_rfl) (by kernel_rfl) (fun _ _ _ h => h) (Or.inr (And.intro (by kernel_rfl) rfl)) hS0 ?r9_309
      (try simp only [Act.put, List.setIfInBounds_toArray, List.set_cons_zero, List.set_cons_succ, List.getElem_toArray, List.getElem_cons_succ, List.getElem_cons_zero])
      refine wpAnyH_take (i := 10) (v := undef) rfl (by kernel_rfl) (by kernel_rfl) (by kernel_rfl) (fun _ _ _ h => h) (Or.inr (And.intro (by kernel_rfl) rfl)) hS0 ?r10_310
      (try simp only [Act.put, List.setIfInBounds_toArray, List.set_cons_zero, List.set_cons_succ, List.getElem_toArray, List.getElem_cons_succ, List.getElem_cons_zero])
      refine wpAnyH_take (i := 11) (v := undef) rfl (by kernel_rfl) (by kernel_rfl) (by kernel_rfl) (fun _ _ _ h => h) (Or.inr (And.intro (by kernel_rfl) rfl)) hS0 ?r11_311
      (try simp only [Act.put, List.setIfInBounds_toArray, List.set_cons_zero, List.set_cons_succ, List.getElem_toArray, List.getElem_cons_succ, List.getElem_cons_zero])
      refine wpAnyH_take (i := 12) (v := ?v12_312) rfl (by kernel_rfl) (by kernel_rfl) (by kernel_rfl) (fun _ _ _ h => h) (Or.inl (And.intro (by kernel_rfl) ?q12_312)) hS0 ?r12_312; (case q12_312 => (intro w hx; (try dsimp only); (try go_simp); (try with_reducible rfl)))
      (try simp only [Act.put, List.setIfInBounds_toArray, List.set_cons_zero, List.set_cons_succ, List.getElem_toArray, List.getElem_cons_succ, List.getElem_cons_zero])
      refine wpAnyH_take (i := 13) (v := ?v13_313) rfl (by kernel_rfl) (by kernel_rfl) (by kernel_rfl) (fun _ _ _ h => h) (Or.inl (And.intro (by kernel_rfl) ?q13_313)) hS0 ?r13_313; (case q13_313 => (intro w hx; (try dsimp only); (try go_simp); (try with_reducible rfl)))
      (try simp only [Act.put, List.setIfInBounds_toArray, List.set_cons_zero, List.set_cons_succ, List.getElem_toArray, List.getElem_cons_succ, List.getElem_cons_zero])
      refine wpAnyH_take (i := 14) (v := undef) rfl (by kernel_rfl) (by kernel_rfl) (by kernel_rfl) (fun _ _ _ h => h) (Or.inr (And.intro (by kernel_rfl) rfl)) hS0 ?r14_314
      (try simp only [Act.put, List.setIfInBounds_toArray, List.set_cons_zero, List.set_cons_succ, List.getElem_toArray, List.getElem_cons_succ, List.getElem_cons_zero])
      refine wpAnyH_take (i := 15) (v := undef) rfl (by kernel_rfl) (by kernel_rfl) (by kernel_rfl) (fun _ _ _ h => h) (Or.inr (And.intro (by kernel_rfl) rfl)) hS0 ?r15_315
      (try simp only [Act.put, List.setIfInBounds_toArray, List.set_cons_zero, List.set_cons_succ, List.getElem_toArray, List.getElem_cons_succ, List.getElem_cons_zero])
      refine wpAnyH_take (i := 16) (v := undef) rfl (by kernel_rfl) (by kernel_rfl) (by kernel_rfl) (fun _ _ _ h => h) (Or.inr (And.intro (by kernel_rfl) rfl)) hS0 ?r16_316
      (try simp only [Act.put, List.setIfInBounds_toArray, List.set_cons_zero, List.set_cons_succ, List.getElem_toArray, List.getElem_cons_succ, List.getElem_cons_zero])
      refine wpAnyH_take (i := 17) (v := undef) rfl (by kernel_rfl) (by kernel_rfl) (by kernel_rfl) (fun _ _ _ h => h) (Or.inr (And.intro (by kernel_rfl) rfl)) hS0 ?r17_317
      (try simp only [Act.put, List.setIfInBounds_toArray, List.set_cons_zero, List.set_cons_succ, List.getElem_toArray, List.getElem_cons_succ, List.getElem_cons_zero])
      refine wpAnyH_take (i := 18) (v := undef) rfl (by kernel_rfl) (by kernel_rfl) (by kernel_rfl) (fun _ _ _ h => h) (Or.inr (And.intro (by kernel_rfl) rfl)) hS0 ?r18_318
      (try simp only [Act.put, List.setIfInBounds_toArray, List.set_cons_zero, List.set_cons_succ, List.getElem_toArray, List.getElem_cons_succ, List.getElem_cons_zero])
      refine wpAnyH_take (i := 19) (v := ?v19_319) rfl (by kernel_rfl) (by kernel_rfl) (by kernel_rfl) (fun _ _ _ h => h) (Or.inl (And.intro (by kernel_rfl) ?q19_319)) hS0 ?r19_319; (case q19_319 => (intro w hx; (try dsimp only); (try go_simp); (try with_reducible rfl)))
      (try simp only [Act.put, List.setIfInBounds_toArray, List.set_cons_zero, List.set_cons_succ, List.getElem_toArray, List.getElem_cons_succ, List.getElem_cons_zero])
      refine wpAnyH_take (i := 20) (v := ?v20_320) rfl (by kernel_rfl) (by kernel_rfl) (by kernel_rfl) (fun _ _ _ h => h) (Or.inl (And.intro (by kernel_rfl) ?q20_320)) hS0 ?r20_320; (case q20_320 => (intro w hx; (try dsimp only); (try go_simp); (try with_reducible rfl)))
      (try simp only [Act.put, List.setIfInBounds_toArray, List.set_cons_zero, List.set_cons_succ, List.getElem_toArray, List.getElem_cons_succ, List.getElem_cons_zero])
      all_goals refine wpAnyH_done (by kernel_rfl) ?_ _
      go_wp2_with fail
      go_ret
      exact ⟨ret_bool (by rw [HV.out]; simp [y1, y2, y3]), bstep L2.out hS0⟩
    | true =>
      cases z2 with
      | false =>
        refine wp_region_held_drew (S := fun W => Below w2.heap.size w2 W) (by kernel_rfl) (bb.drew) (fun hS0 => ?_)
        refine wpAnyH_take (i := 0) (v := ?v0_321) rfl (by kernel_rfl) (by kernel_rfl) (by kernel_rfl) (fun _ _ _ h => h) (Or.inl (And.intro (by kernel_rfl) ?q0_321)) hS0 ?r0_321; (case q0_321 => (intro w hx; (try dsimp only); (try go_simp); (try with_reducible rfl)))
        (try simp only [Act.put, List.setIfInBounds_toArray, List.set_cons_zero, List.set_cons_succ, List.getElem_toArray, List.getElem_cons_succ, List.getElem_cons_zero])
        refine wpAnyH_take (i := 1) (v := ?v1_322) rfl (by kernel_rfl) (by kernel_rfl) (by kernel_rfl) (fun _ _ _ h => h) (Or.inl (And.intro (by kernel_rfl) ?q1_322)) hS0 ?r1_322; (case q1_322 => (intro w hx; (try dsimp only); (try go_simp); (try with_reducible rfl)))
        (try simp only [Act.put, List.setIfInBounds_toArray, List.set_cons_zero, List.set_cons_succ, List.getElem_toArray, List.getElem_cons_succ, List.getElem_cons_zero])
        refine wpAnyH_take (i := 3) (v := ?v3_323) rfl (by kernel_rfl) (by kernel_rfl) (by kernel_rfl) (fun _ _ _ h => h) (Or.inl (And.intro (by kernel_rfl) ?q3_323)) hS0 ?r3_323; (case q3_323 => (intro w hx; (try dsimp only); (try go_simp); (try with_reducible rfl)))
        (try simp only [Act.put, List.setIfInBounds_toArray, List.set_cons_zero, List.set_cons_succ, List.getElem_toArray, List.getElem_cons_succ, List.getElem_cons_zero])
        refine wpAnyH_take (i := 4) (v := ?v4_324) rfl (by kernel_rfl) (by kernel_rfl) (by kernel_rfl) (fun _ _ _ h => h) (Or.inl (And.intro (by kernel_rfl) ?q4_324)) hS0 ?r4_324; (case q4_324 => (intro w hx; (try dsimp only); (try go_simp); (try with_reducible rfl)))
        (try simp only [Act.put, List.setIfInBounds_toArray, List.set_cons_zero, List.set_cons_succ, List.getElem_toArray, List.getElem_cons_succ, List.getElem_cons_zero])
        all_goals refine wpAnyH_ready (rs := [2]) (by kernel_rfl) (by simp) ?_
        all_goals refine AllReadyH.cons rfl (fun K hK => ?_) AllReadyH.nil
        all_goals (rw [if_pos (by kernel_rfl)]; (try simp only [List.getElem_toArray, List.getElem_cons_succ, List.getElem_cons_zero]); go_simp; ((with_reducible refine (CE.out _ (bstep L2.out hS0)).mono ?_); rintro e wq ⟨rfl, bq⟩); (try go_wp2_with fail); refine hK.out _ _ (by (first | with_reducible exact hS0 | exact bstep hS0 bq)) (fun hS0 => ?_); clear hK K; (try simp only [Act.put, List.setIfInBounds_toArray, List.set_cons_zero, List.set_cons_succ, List.getElem_toArray, List.getElem_cons_succ, List.getElem_cons_zero]))
        refine wpAnyH_take (i := 5) (v := ?v5_325) rfl (by kernel_rfl) (by kernel_rfl) (by kernel_rfl) (fun _ _ _ h => h) (Or.inl (And.intro (by kernel_rfl) ?q5_325)) hS0 ?r5_325; (case q5_325 => (intro w hx; (try dsimp only); (try go_simp); (try with_reducible rfl)))
        (try simp only [Act.put, List.setIfInBounds_toArray, List.set_cons_zero, List.set_cons_succ, List.getElem_toArray, List.getElem_cons_succ, List.getElem_cons_zero])
        refine wpAnyH_take (i := 6) (v := ?v6_326) rfl (by kernel_rfl) (by kernel_rfl) (by kernel_rfl) (fun _ _ _ h => h) (Or.inl (And.intro (by kernel_rfl) ?q6_326)) hS0 ?r6_326; (case q6_326 => (intro w hx; (try dsimp only); (try go_simp); (try with_reducible rfl)))
        (try simp only [Act.put, List.setIfInBounds_toArray, List.set_cons_zero, List.set_cons_succ, List.getElem_toArray, List.getElem_cons_succ, List.getElem_cons_zero])
        refine wpAnyH_take (i := 7) (v := ?v7_327) rfl (by kernel_rfl) (by kernel_rfl) (by kernel_rfl) (fun _ _ _ h => h) (Or.inl (And.intro (by kernel_rfl) ?q7_327)) hS0 ?r7_327; (case q7_327 => (intro w hx; (try dsimp only); (try go_simp); (try with_reducible rfl)))
        (try simp only [Act.put, List.setIfInBounds_toArray, List.set_cons_zero, List.set_cons_succ, List.getElem_toArray, List.getElem_cons_succ, List.getElem_cons_zero])
        refine wpAnyH_take (i := 8) (v := ?v8_328) rfl (by kernel_rfl) (by kernel_rfl) (by kernel_rfl) (fun _ _ _ h => h) (Or.inl (And.intro (by kernel_rfl) ?q8_328)) hS0 ?r8_328; (case q8_328 => (intro w hx; (try dsimp only); (try go_simp); (try with_reducible rfl)))
        (try simp only [Act.put, List.setIfInBounds_toArray, List.set_cons_zero, List.set_cons_succ, List.getElem_toArray, List.getElem_cons_succ, List.getElem_cons_zero])
        refine wpAnyH_take (i := 9) (v := ?v9_329) rfl (by kernel_rfl) (by kernel_rfl) (by kernel_rfl) (fun _ _ _ h => h) (Or.inl (And.intro (by kernel_rfl) ?q9_329)) hS0 ?r9_329; (case q9_329 => (intro w hx; (try dsimp only); (try go_simp); (try with_reducible rfl)))
        (try simp only [Act.put, List.setIfInBounds_toArray, List.set_cons_zero, List.set_cons_succ, List.getElem_toArray, List.getElem_cons_succ, List.getElem_cons_zero])
        refine wpAnyH_take (i := 10) (v := ?v10_330) rfl (by kernel_rfl) (by kernel_rfl) (by kernel_rfl) (fun _ _ _ h => h) (Or.inl (And.intro (by kernel_rfl) ?q10_330)) hS0 ?r10_330; (case q10_330 => (intro w hx; (try dsimp only); (try go_simp); (try with_reducible rfl)))
        (try simp only [Act.put, List.setIfInBounds_toArray, List.set_cons_zero, List.set_cons_succ, List.getElem_toArray, List.getElem_cons_succ, List.getElem_cons_zero])
        refine wpAnyH_take (i := 11) (v := ?v11_331) rfl (by kernel_rfl) (by kernel_rfl) (by kernel_rfl) (fun _ _ _ h => h) (Or.inl (And.intro (by kernel_rfl) ?q11_331)) hS0 ?r11_331; (case q11_331 => (intro w hx; (try dsimp only); (try go_simp); (try with_reducible rfl)))
        (try simp only [Act.put, List.setIfInBounds_toArray, List.set_cons_zero, List.set_cons_succ, List.getElem_toArray, List.getElem_cons_succ, List.getElem_cons_zero])
        refine wpAnyH_take (i := 12) (v := ?v12_332) rfl (by kernel_rfl) (by kernel_rfl) (by kernel_rfl) (fun _ _ _ h => h) (Or.inl (And.intro (by kernel_rfl) ?q12_332)) hS0 ?r12_332; (case q12_332 => (intro w hx; (try dsimp only); (try go_simp); (try with_reducible rfl)))
        (try simp only [Act.put, List.setIfInBounds_toArray, List.set_cons_zero, List.set_cons_succ, List.getElem_toArray, List.getElem_cons_succ, List.getElem_cons_zero])
        refine wpAnyH_take (i := 13) (v := ?v13_333) rfl (by kernel_rfl) (by kernel_rfl) (by kernel_rfl) (fun _ _ _ h => h) (Or.inl (And.intro (by kernel_rfl) ?q13_333)) hS0 ?r13_333; (case q13_333 => (intro w hx; (try dsimp only); (try go_simp); (try with_reducible rfl)))
        (try simp only [Act.put, List.setIfInBounds_toArray, List.set_cons_zero, List.set_cons_succ, List.getElem_toArray, List.getElem_cons_succ, List.getElem_cons_zero])
        refine wpAnyH_take (i := 14) (v := undef) rfl (by kernel_rfl) (by kernel_rfl) (by kernel_rfl) (fun _ _ _ h => h) (Or.inr (And.intro (by kernel_rfl) rfl)) hS0 ?r14_334
        (try simp only [Act.put, List.setIfInBounds_toArray, List.set_cons_zero, List.set_cons_succ, List.getElem_toArray, List.getElem_cons_succ, List.getElem_cons_zero])
        refine wpAnyH_take (i := 15) (v := undef) rfl (by kernel_rfl) (by kernel_rfl) (by kernel_rfl) (fun _ _ _ h => h) (Or.inr (And.intro (by kernel_rfl) rfl)) hS0 ?r15_335
        (try simp only [Act.put, List.setIfInBounds_toArray, List.set_cons_zero, List.set_cons_succ, List.getElem_toArray, List.getElem_cons_succ, List.getElem_cons_zero])
        refine wpAnyH_take (i := 16) (v := undef) rfl (by kernel_rfl) (by kernel_rfl) (by kernel_rfl) (fun _ _ _ h => h) (Or.inr (And.intro (by kernel_rfl) rfl)) hS0 ?r16_336
        (try simp only [Act.put, List.setIfInBounds_toArray, List.set_cons_zero, List.set_cons_succ, List.getElem_toArray, List.getElem_cons_succ, List.getElem_cons_zero])
        refine wpAnyH_take (i := 17) (v := undef) rfl (by kernel_rfl) (by kernel_rfl) (by kernel_rfl) (fun _ _ _ h => h) (Or.inr (And.intro (by kernel_rfl) rfl)) hS0 ?r17_337
        (try simp only [Act.put, List.setIfInBounds_toArray, List.set_cons_zero, List.set_cons_succ, List.getElem_toArray, List.getElem_cons_succ, List.getElem_cons_zero])
        refine wpAnyH_take (i := 18) (v := undef) rfl (by kernel_rfl) (by kernel_rfl) (by kernel_rfl) (fun _ _ _ h => h) (Or.inr (And.intro (by kernel_rfl) rfl)) hS0 ?r18_338
        (try simp only [Act.put, List.setIfInBounds_toArray, List.set_cons_zero, List.set_cons_succ, List.getElem_toArray, List.getElem_cons_succ, List.getElem_cons_zero])
        refine wpAnyH_take (i := 19) (v := ?v19_339) rfl (by kernel_rfl) (by kernel_rfl) (by kernel_rfl) (fun _ _ _ h => h) (Or.inl (And.intro (by kernel_rfl) ?q19_339)) hS0 ?r19_339; (case q19_339 => (intro w hx; (try dsimp only); (try go_simp); (try with_reducible rfl)))
        (try simp only [Act.put, List.setIfInBounds_toArray, List.set_cons_zero, List.set_cons_succ, List.getElem_toArray, List.getElem_cons_succ, List.getElem_cons_zero])
        refine wpAnyH_take (i := 20) (v := ?v20_340) rfl (by kernel_rfl) (by kernel_rfl) (by kernel_rfl) (fun _ _ _ h => h) (Or.inl (And.intro (by kernel_rfl) ?q20_340)) hS0 ?r20_340; (case q20_340 => (intro w hx; (try dsimp only); (try go_simp); (try with_reducible rfl)))
        (try simp only [Act.put, List.setIfInBounds_toArray, List.set_cons_zero, List.set_cons_succ, List.getElem_toArray, List.getElem_cons_succ, List.getElem_cons_zero])
        all_goals refine wpAnyH_done (by kernel_rfl) ?_ _
        go_wp2_with fail
        go_ret
        exact ⟨ret_bool (by rw [HV.out]; simp [y1, y2, y3]), bstep L2.out hS0⟩
      | true =>
        refine wp_region_held_drew (S := fun W => Below w2.heap.size w2 W) (by kernel_rfl) (bb.drew) (fun hS0 => ?_)
        refine wpAnyH_take (i := 0) (v := ?v0_341) rfl (by kernel_rfl) (by kernel_rfl) (by kernel_rfl) (fun _ _ _ h => h) (Or.inl (And.intro (by kernel_rfl) ?q0_341)) hS0 ?r0_341; (case q0_341 => (intro w hx; (try dsimp only); (try go_simp); (try with_reducible rfl)))
        (try simp only [Act.put, List.setIfInBounds_toArray, List.set_cons_zero, List.set_cons_succ, List.getElem_toArray, List.getElem_cons_succ, List.getElem_cons_zero])
        refine wpAnyH_take (i := 1) (v := ?v1_342) rfl (by kernel_rfl) (by kernel_rfl) (by kernel_rfl) (fun _ _ _ h => h) (Or.inl (And.intro (by kernel_rfl) ?q1_342)) hS0 ?r1_342; (case q1_342 => (intro w hx; (try dsimp only); (try go_simp); (try with_reducible rfl)))
        (try simp only [Act.put, List.setIfInBounds_toArray, List.set_cons_zero, List.set_cons_succ, List.getElem_toArray, List.getElem_cons_succ, List.getElem_cons_zero])
        refine wpAnyH_take (i := 3) (v := ?v3_343) rfl (by kernel_rfl) (by kernel_rfl) (by kernel_rfl) (fun _ _ _ h => h) (Or.inl (And.intro (by kernel_rfl) ?q3_343)) hS0 ?r3_343; (case q3_343 => (intro w hx; (try dsimp only); (try go_simp); (try with_reducible rfl)))
        (try simp only [Act.put, List.setIfInBounds_toArray, List.set_cons_zero, List.set_cons_succ, List.getElem_toArray, List.getElem_cons_succ, List.getElem_cons_zero])
        refine wpAnyH_take (i := 4) (v := ?v4_344) rfl (by kernel_rfl) (by kernel_rfl) (by kernel_rfl) (fun _ _ _ h => h) (Or.inl (And.intro (by kernel_rfl) ?q4_344)) hS0 ?r4_344; (case q4_344 => (intro w hx; (try dsimp only); (try go_simp); (try with_reducible rfl)))
        (try simp only [Act.put, List.setIfInBounds_toArray, List.set_cons_zero, List.set_cons_succ, List.getElem_toArray, List.getElem_cons_succ, List.getElem_cons_zero])
        all_goals refine wpAnyH_ready (rs := [2]) (by kernel_rfl) (by simp) ?_
        all_goals refine AllReadyH.cons rfl (fun K hK => ?_) AllReadyH.nil
        all_goals (rw [if_pos (by kernel_rfl)]; (try simp only [List.getElem_toArray, List.getElem_cons_succ, List.getElem_cons_zero]); go_simp; ((with_reducible refine (CE.out _ (bstep L2.out hS0)).mono ?_); rintro e wq ⟨rfl, bq⟩); (try go_wp2_with fail); refine hK.out _ _ (by (first | with_reducible exact hS0 | exact bstep hS0 bq)) (fun hS0 => ?_); clear hK K; (try simp only [Act.put, List.setIfInBounds_toArray, List.set_cons_zero, List.set_cons_succ, List.getElem_toArray, List.getElem_cons_succ, List.getElem_cons_zero]))
        refine wpAnyH_take (i := 5) (v := ?v5_345) rfl (by kernel_rfl) (by kernel_rfl) (by kernel_rfl) (fun _ _ _ h => h) (Or.inl (And.intro (by kernel_rfl) ?q5_345)) hS0 ?r5_345; (case q5_345 => (intro w hx; (try dsimp only); (try go_simp); (try with_reducible rfl)))
        (try simp only [Act.put, List.setIfInBounds_toArray, List.set_cons_zero, List.set_cons_succ, List.getElem_toArray, List.getElem_cons_succ, List.getElem_cons_zero])
        refine wpAnyH_take (i := 6) (v := ?v6_346) rfl (by kernel_rfl) (by kernel_rfl) (by kernel_rfl) (fun _ _ _ h => h) (Or.inl (And.intro (by kernel_rfl) ?q6_346)) hS0 ?r6_346; (case q6_346 => (intro w hx; (try dsimp only); (try go_simp); (try with_reducible rfl)))
        (try simp only [Act.put, List.setIfInBounds_toArray, List.set_cons_zero, List.set_cons_succ, List.getElem_toArray, List.getElem_cons_succ, List.getElem_cons_zero])
        refine wpAnyH_take (i := 7) (v := ?v7_347) rfl (by kernel_rfl) (by kernel_rfl) (by kernel_rfl) (fun _ _ _ h => h) (Or.inl (And.intro (by kernel_rfl) ?q7_347)) hS0 ?r7_347; (case q7_347 => (intro w hx; (try dsimp only); (try go_simp); (try with_reducible rfl)))
        (try simp only [Act.put, List.setIfInBounds_toArray, List.set_cons_zero, List.set_cons_succ, List.getElem_toArray, List.getElem_cons_succ, List.getElem_cons_zero])
        refine wpAnyH_take (i := 8) (v := ?v8_348) rfl (by kernel_rfl) (by kernel_rfl) (by kernel_rfl) (fun _ _ _ h => h) (Or.inl (And.intro (by kernel_rfl) ?q8_348)) hS0 ?r8_348; (case q8_348 => (intro w hx; (try dsimp only); (try go_simp); (try with_reducible rfl)))
        (try simp only [Act.put, List.setIfInBounds_toArray, List.set_cons_zero, List.set_cons_succ, List.getElem_toArray, List.getElem_cons_succ, List.getElem_cons_zero])
        refine wpAnyH_take (i := 9) (v := ?v9_349) rfl (by kernel_rfl) (by kernel_rfl) (by kernel_rfl) (fun _ _ _ h => h) (Or.inl (And.intro (by kernel_rfl) ?q9_349)) hS0 ?r9_349; (case q9_349 => (intro w hx; (try dsimp only); (try go_simp); (try with_reducible rfl)))
        (try simp only [Act.put, List.setIfInBounds_toArray, List.set_cons_zero, List.set_cons_succ, List.getElem_toArray, List.getElem_cons_succ, List.getElem_cons_zero])
        refine wpAnyH_take (i := 10) (v := ?v10_350) rfl (by kernel_rfl) (by kernel_rfl) (by kernel_rfl) (fun _ _ _ h => h) (Or.inl (And.intro (by kernel_rfl) ?q10_350)) hS0 ?r10_350; (case q10_350 => (intro w hx; (try dsimp only); (try go_simp); (try with_reducible rfl)))
        (try simp only [Act.put, List.setIfInBounds_toArray, List.set_cons_zero, List.set_cons_succ, List.getElem_toArray, List.getElem_cons_succ, List.getElem_cons_zero])
        refine wpAnyH_take (i := 11) (v := ?v11_351) rfl (by kernel_rfl) (by kernel_rfl) (by kernel_rfl) (fun _ _ _ h => h) (Or.inl (And.intro (by kernel_rfl) ?q11_351)) hS0 ?r11_351; (case q11_351 => (intro w hx; (try dsimp only); (try go_simp); (try with_reducible rfl)))
        (try simp only [Act.put, List.setIfInBounds_toArray, List.set_cons_zero, List.set_cons_succ, List.getElem_toArray, List.getElem_cons_succ, List.getElem_cons_zero])
        refine wpAnyH_take (i := 12) (v := ?v12_352) rfl (by kernel_rfl) (by kernel_rfl) (by kernel_rfl) (fun _ _ _ h => h) (Or.inl (And.intro (by kernel_rfl) ?q12_352)) hS0 ?r12_352; (case q12_352 => (intro w hx; (try dsimp only); (try go_simp); (try with_reducible rfl)))
        (try simp only [Act.put, List.setIfInBounds_toArray, List.set_cons_zero, List.set_cons_succ, List.getElem_toArray, List.getElem_cons_succ, List.getElem_cons_zero])
        refine wpAnyH_take (i := 13) (v := ?v13_353) rfl (by kernel_rfl) (by kernel_rfl) (by kernel_rfl) (fun _ _ _ h => h) (Or.inl (And.intro (by kernel_rfl) ?q13_353)) hS0 ?r13_353; (case q13_353 => (intro w hx; (try dsimp only); (try go_simp); (try with_reducible rfl)))
        (try simp only [Act.put, List.setIfInBounds_toArray, List.set_cons_zero, List.set_cons_succ, List.getElem_toArray, List.getElem_cons_succ, List.getElem_cons_zero])
        refine wpAnyH_take (i := 14) (v := ?v14_354) rfl (by kernel_rfl) (by kernel_rfl) (by kernel_rfl) (fun _ _ _ h => h) (Or.inl (And.intro (by kernel_rfl) ?q14_354)) hS0 ?r14_354; (case q14_354 => (intro w hx; (try dsimp only); (try go_simp); (try with_reducible rfl)))
        (try simp only [Act.put, List.setIfInBounds_toArray, List.set_cons_zero, List.set_cons_succ, List.getElem_toArray, List.getElem_cons_succ, List.getElem_cons_zero])
        refine wpAnyH_take (i := 15) (v := ?v15_355) rfl (by kernel_rfl) (by kernel_rfl) (by kernel_rfl) (fun _ _ _ h => h) (Or.inl (And.intro (by kernel_rfl) ?q15_355)) hS0 ?r15_355; (case q15_355 => (intro w hx; (try dsimp only); (try go_simp); (try with_reducible rfl)))
        (try simp only [Act.put, List.setIfInBounds_toArray, List.set_cons_zero, List.set_cons_succ, List.getElem_toArray, List.getElem_cons_succ, List.getElem_cons_zero])
        refine wpAnyH_take (i := 16) (v := ?v16_356) rfl (by kernel_rfl) (by kernel_rfl) (by kernel_rfl) (fun _ _ _ h => h) (Or.inl (And.intro (by kernel_rfl) ?q16_356)) hS0 ?r16_356; (case q16_356 => (intro w hx; (try dsimp only); (try go_simp); (try with_reducible rfl)))
        (try simp only [Act.put, List.setIfInBounds_toArray, List.set_cons_zero, List.set_cons_succ, List.getElem_toArray, List.getElem_cons_succ, List.getElem_cons_zero])
        refine wpAnyH_take (i := 17) (v := ?v17_357) rfl (by kernel_rfl) (by kernel_rfl) (by kernel_rfl) (fun _ _ _ h => h) (Or.inl (And.intro (by kernel_rfl) ?q17_357)) hS0 ?r17_357; (case q17_357 => (intro w hx; (try dsimp only); (try go_simp); (try with_reducible rfl)))
        (try simp only [Act.put, List.setIfInBounds_toArray, List.set_cons_zero, List.set_cons_succ, List.getElem_toArray, List.getElem_cons_succ, List.getElem_cons_zero])
        refine wpAnyH_take (i := 18) (v := ?v18_358) rfl (by kernel_rfl) (by kernel_rfl) (by kernel_rfl) (fun _ _ _ h => h) (Or.inl (And.intro (by kernel_rfl) ?q18_358)) hS0 ?r18_358; (case q18_358 => (intro w hx; (try dsimp only); (try go_simp); (try with_reducible rfl)))
        (try simp only [Act.put, List.setIfInBounds_toArray, List.set_cons_zero, List.set_cons_succ, List.getElem_toArray, List.getElem_cons_succ, List.getElem_cons_zero])
        refine wpAnyH_take (i := 19) (v := ?v19_359) rfl (by kernel_rfl) (by kernel_rfl) (by kernel_rfl) (fun _ _ _ h => h) (Or.inl (And.intro (by kernel_rfl) ?q19_359)) hS0 ?r19_359; (case q19_359 => (intro w hx; (try dsimp only); (try go_simp); (try with_reducible rfl)))
        (try simp only [Act.put, List.setIfInBounds_toArray, List.set_cons_zero, List.set_cons_succ, List.getElem_toArray, List.getElem_cons_succ, List.getElem_cons_zero])
        refine wpAnyH_take (i := 20) (v := ?v20_360) rfl (by kernel_rfl) (by kernel_rfl) (by kernel_rfl) (fun _ _ _ h => h) (Or.inl (And.intro (by kernel_rfl) ?q20_360)) hS0 ?r20_360; (case q20_360 => (intro w hx; (try dsimp only); (try go_simp); (try with_reducible rfl)))
        (try simp only [Act.put, List.setIfInBounds_toArray, List.set_cons_zero, List.set_cons_succ, List.getElem_toArray, List.getElem_cons_succ, List.getElem_cons_zero])
        all_goals refine wpAnyH_done (by kernel_rfl) ?_ _
        go_wp2_with fail
        go_ret
        exact ⟨ret_bool (by rw [HV.out]; simp [y1, y2, y3]), bstep L2.out hS0⟩

theorem d_Clash (w : World) (B : Nat) (o ip b' : Int) (v : Value) (a b : Rule) (h : Doc w B o ip b' v) :
    Calls Try.prog 47 #[.pointer (some ⟨B, 0, none⟩), .agg a.cells, .agg b.cells] w (Ret (.bool (dClash o a b)) w) := by
  unfold dClash
  by_cases h1 : a.k = 3
  · rw [if_pos h1]
    by_cases h2 : b.k = 3
    · rw [if_pos h2]; exact d_Clash_33 w B o ip b' v a b h (by simpa using h1) (by simpa using h2)
    · rw [if_neg h2]; exact d_Clash_30 w B o ip b' v a b h (by simpa using h1) (by simpa using h1) (by simpa using h2) (by simpa using h2)
  · rw [if_neg h1]
    by_cases h2 : b.k = 3
    · rw [if_pos h2]; exact d_Clash_03 w B o ip b' v a b h (by simpa using h1) (by simpa using h1) (by simpa using h2) (by simpa using h2)
    · rw [if_neg h2]; exact d_Clash_00 w B o ip b' v a b h (by simpa using h1) (by simpa using h1) (by simpa using h2)
end Go.Proofs.Ytbboajhdijabbaa
