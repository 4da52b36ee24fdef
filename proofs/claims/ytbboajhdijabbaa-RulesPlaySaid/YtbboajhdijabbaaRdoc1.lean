/- rules: the document's table (porterref11): New, ext. -/
import Derived.Test.YtbboajhdijabbaaRule20
set_option linter.unusedVariables false
set_option linter.unusedSimpArgs false
namespace Go.Proofs.Ytbboajhdijabbaa
open Go.RowKit Go.Lib
attribute [local go_sem] Oper.semAt_some

/-- the document's table and its rules, in memory -/
structure DS (W : World) (B : Nat) (o ip b : Int) (l : List Rule) (v : Value) : Prop where
  tbl : Doc W B o ip b v
  row : RR W v l
  off : v.ownBlock ≠ some B
theorem DS.below {W W' : World} {B : Nat} {o ip b : Int} {l : List Rule} {v : Value} (h : DS W B o ip b l v) (k : Below W.heap.size W W') : DS W' B o ip b l v := ⟨h.tbl.below k, h.row.below k, h.off⟩
theorem DS.only {W W' : World} {B : Nat} {o ip b : Int} {l : List Rule} {v : Value} {X : Nat → Prop} (h : DS W B o ip b l v) (k : Only X W W') (h1 : ¬ X B) (h2 : ∀ g, v.ownBlock = some g → ¬ X g) : DS W' B o ip b l v := ⟨Cells.only h.tbl k h1, h.row.only k h2, h.off⟩
/-- what the loops ask of a slice of rules -/
theorem DS.rows {W : World} {B : Nat} {o ip b : Int} {l : List Rule} {v : Value} (h : DS W B o ip b l v) : ∃ A c, v = .slice A l.length c ∧ (0 < l.length → ∃ g, A = some ⟨g, 0, none⟩ ∧ g < W.heap.size ∧ ∀ k (hk : k < l.length) i u, i < 11 → (l[k]).cells.toList[i]? = some u → W.cell? ⟨g, k * 11 + i, none⟩ = some u) := by
  obtain ⟨A, c, hv⟩ := slice_of h.row
  refine ⟨A, c, hv, fun hn => ?_⟩
  obtain ⟨g, c', hv', hg, _, _, hc⟩ := RR.cell h.row (by rintro rfl; simp at hn)
  rw [hv] at hv'
  cases hv'
  exact ⟨g, rfl, hg, fun k hk i u hi hu => hc _ _ (by rw [cellsOf_at hk hi]; exact hu)⟩

set_option maxHeartbeats 4000000 in
set_option maxRecDepth 100000 in
theorem d_New (w : World) (o ip b : Int) (hi : 0 ≤ ip ∧ ip ≤ 4294967295) (ho : 0 ≤ o ∧ o ≤ 4294967295) :
    Calls Try.prog 10 #[.int .u32 o, .agg #[.int .u32 ip, .int .i64 b]] w fun e w' => if newOk o ip b = true then ∃ B', e = .returned (.tuple #[.pointer (some ⟨B', 0, none⟩), .int .i64 0]) ∧ DS w' B' o ip b [] (.slice none 0 0) ∧ Below w.heap.size w w' ∧ w.heap.size ≤ B' else e = .returned (.tuple #[.pointer none, .int .i64 2]) ∧ Below w.heap.size w w' := by
  have c0 := fun W => ref_May ip b W hi
  have c1 := fun W => ref_Has ip b o W hi ho
  unfold newOk
  generalize mayP ip b = q1 at *
  generalize hasP ip b o = q2 at *
  have C0 := hide c0; have C1 := hide c1
  clear c0 c1 hi ho
  cases q1 <;> cases q2
  all_goals
    simp only [Bool.false_and, Bool.true_and, Bool.not_true, Bool.not_false, Bool.false_eq_true, if_true, if_false]
    go_enter Try.func10, Try.ntmps10
    have d := Cells.new w #[.int .u32 ip, .int .i64 b] 25
    have l0 := fresh_below w (.cells #[.int .u32 ip, .int .i64 b] 25)
    have L0 := hide l0; have D0 := hide d
    clear l0 d
    go_upto_region 1 with fail
    have l0 := L0.out; have d := D0.out
    clear L0 D0
    generalize (w.alloc (.cells #[.int .u32 ip, .int .i64 b] 25)) = w1 at *
    have qd_0 : ∀ W', Below w1.heap.size w1 W' → World.cell? W' ⟨w.heap.size, 0, none⟩ = some (.int .u32 ip) := fun W' h => Cells.at_ (Cells.below h d) 0
    have qd_1 : ∀ W', Below w1.heap.size w1 W' → World.cell? W' ⟨w.heap.size, 1, none⟩ = some (.int .i64 b) := fun W' h => Cells.at_ (Cells.below h d) 1
    have bb : Below w1.heap.size w1 w1 := Below.refl _ _
    have L0 := hide l0
    clear l0 d
    go_wp2_with (first | (go_at_call 36; (with_reducible refine (C0.out _).mono ?_); rintro e2 w2 ⟨rfl, b2⟩; have b2' := bstep (by assumption : Below w1.heap.size w1 _) b2; clear b2) | (go_at_call 37; (with_reducible refine (C1.out _).mono ?_); rintro e2 w2 ⟨rfl, b2⟩; have b2' := bstep (by assumption : Below w1.heap.size w1 _) b2; clear b2))
    (try simp only [Exit.inBlock, Exit.then]); refine bodyPost_ret (by simp [results, Try.results10, go_sem, *]; try rfl) rfl ?_
    first
    | exact ⟨rfl, bstep L0.out (by assumption)⟩
    | (have hb := bstep L0.out b2'; exact ⟨_, rfl, ⟨Cells.new w2 _ _, RR.nil _, by intro e; cases e⟩, bstep hb (fresh_below _ _), hb.size⟩)

set_option maxHeartbeats 4000000 in
set_option maxRecDepth 100000 in
theorem d_ext (w : World) (B : Nat) (o ip b : Int) (v : Value) (r : Rule) (h : Doc w B o ip b v) :
    Calls Try.prog 49 #[.pointer (some ⟨B, 0, none⟩), .agg r.cells] w (Ret (.int .u32 (wholeR o r).e) w) := by
  obtain ⟨q, hq⟩ : ∃ q, q = (wholeR o r).e := ⟨_, rfl⟩
  rw [← hq]
  unfold wholeR at hq
  unfold Rule.cells
  have HQ := hide hq; have H := hide h
  clear hq h
  go_enter Try.func49, Try.ntmps49
  have d := Cells.new w #[.int .i64 r.k, .int .u8 r.p, .int .u32 r.sa, .int .i64 r.sb, .int .u32 r.da, .int .i64 r.db, .int .u32 r.e, .int .u16 r.f, .int .u16 r.t, .int .u32 r.ia, .int .u16 r.ip] 30
  have l0 := fresh_below w (.cells #[.int .i64 r.k, .int .u8 r.p, .int .u32 r.sa, .int .i64 r.sb, .int .u32 r.da, .int .i64 r.db, .int .u32 r.e, .int .u16 r.f, .int .u16 r.t, .int .u32 r.ia, .int .u16 r.ip] 30)
  have L0 := hide l0; have D0 := hide d
  clear l0 d
  go_upto_region 1 with fail
  have l0 := L0.out; have d := D0.out
  clear L0 D0
  generalize (w.alloc (.cells #[.int .i64 r.k, .int .u8 r.p, .int .u32 r.sa, .int .i64 r.sb, .int .u32 r.da, .int .i64 r.db, .int .u32 r.e, .int .u16 r.f, .int .u16 r.t, .int .u32 r.ia, .int .u16 r.ip] 30)) = w1 at *
  have hB := Cells.below l0 H.out
  have xhB_0 : w1.cell? ⟨B, 0, none⟩ = some (.int .u32 o) := hB.at_ 0
  have xd_0 : w1.cell? ⟨w.heap.size, 0, none⟩ = some (.int .i64 r.k) := d.at_ 0
  have xd_1 : w1.cell? ⟨w.heap.size, 1, none⟩ = some (.int .u8 r.p) := d.at_ 1
  have xd_2 : w1.cell? ⟨w.heap.size, 2, none⟩ = some (.int .u32 r.sa) := d.at_ 2
  have xd_3 : w1.cell? ⟨w.heap.size, 3, none⟩ = some (.int .i64 r.sb) := d.at_ 3
  have xd_4 : w1.cell? ⟨w.heap.size, 4, none⟩ = some (.int .u32 r.da) := d.at_ 4
  have xd_5 : w1.cell? ⟨w.heap.size, 5, none⟩ = some (.int .i64 r.db) := d.at_ 5
  have xd_6 : w1.cell? ⟨w.heap.size, 6, none⟩ = some (.int .u32 r.e) := d.at_ 6
  have xd_7 : w1.cell? ⟨w.heap.size, 7, none⟩ = some (.int .u16 r.f) := d.at_ 7
  have xd_8 : w1.cell? ⟨w.heap.size, 8, none⟩ = some (.int .u16 r.t) := d.at_ 8
  have xd_9 : w1.cell? ⟨w.heap.size, 9, none⟩ = some (.int .u32 r.ia) := d.at_ 9
  have xd_10 : w1.cell? ⟨w.heap.size, 10, none⟩ = some (.int .u16 r.ip) := d.at_ 10
  have L0 := hide l0
  clear l0 d hB
  go_wp2_with fail
  all_goals
    go_ret
    refine ⟨ret_int ?_, L0.out⟩
    rw [HQ.out]
    clear HQ H
    first | (simp [*]; done) | (simp_all; done)
end Go.Proofs.Ytbboajhdijabbaa
