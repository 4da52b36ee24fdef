/- rules: Static, Own, Source. -/
import Derived.Test.YtbboajhdijabbaaRule16
set_option linter.unusedVariables false
set_option linter.unusedSimpArgs false
namespace Go.Proofs.Ytbboajhdijabbaa
open Go.RowKit Go.Lib
attribute [local go_sem] Oper.semAt_some

set_option maxHeartbeats 4000000 in
set_option maxRecDepth 100000 in
theorem t_Static (w : World) (B : Nat) (o ip b : Int) (v : Value) (l : List Rule) (h : TS w B o ip b l v) (hl : l.length ≤ 1000) (p ei ep : Int) :
    Calls Try.prog 28 #[.pointer (some ⟨B, 0, none⟩), .int .u8 p, .agg #[.int .u32 ei, .int .u16 ep]] w (Ret (.tuple #[.agg (firstR o (stP p ei ep) l).cells, .bool (l.any (stP p ei ep))]) w) := by
  have c1 : ∀ W, Below w.heap.size w W → Cells W (w.heap.size) #[.int .u8 p] 5 → Cells W (w.heap.size + 1) #[.int .u32 ei, .int .u16 ep] 28 → Calls Try.prog 51 #[.pointer (some ⟨B, 0, none⟩), .func (.func 54) #[] #[.pointer (some ⟨w.heap.size, 0, none⟩), .pointer (some ⟨w.heap.size + 1, 0, none⟩)]] W (Ret (.tuple #[.agg (firstR o (stP p ei ep) l).cells, .bool (l.any (stP p ei ep))]) W) := fun W hW k0 k1 => t_first W B o ip b v l (h.below hW) hl (stP p ei ep) 54 _ (enters_of Try.func54 (by kernel_rfl) rfl) (fun W' r hr hb => t_Static1 W' p ei ep r _ _ _ _ (Cells.below hb k0) (Cells.below hb k1))
  generalize firstR o (stP p ei ep) l = r1 at *
  generalize l.any (stP p ei ep) = q at *
  unfold Rule.cells at *
  have C1 := hide c1
  clear c1 h hl
  go_enter Try.func28, Try.ntmps28
  have d0 := Cells.new w #[.int .u8 p] 5
  replace d0 := Cells.below (fresh_below (w.alloc (.cells #[.int .u8 p] 5)) (.cells #[.int .u32 ei, .int .u16 ep] 28)) d0
  have d1 := Cells.new (w.alloc (.cells #[.int .u8 p] 5)) #[.int .u32 ei, .int .u16 ep] 28
  replace d0 := Cells.below (fresh_below ((w.alloc (.cells #[.int .u8 p] 5)).alloc (.cells #[.int .u32 ei, .int .u16 ep] 28)) (.cells #[.int .i64 0, .int .u8 0, .int .u32 0, .int .i64 0, .int .u32 0, .int .i64 0, .int .u32 0, .int .u16 0, .int .u16 0, .int .u32 0, .int .u16 0] 30)) d0
  replace d1 := Cells.below (fresh_below ((w.alloc (.cells #[.int .u8 p] 5)).alloc (.cells #[.int .u32 ei, .int .u16 ep] 28)) (.cells #[.int .i64 0, .int .u8 0, .int .u32 0, .int .i64 0, .int .u32 0, .int .i64 0, .int .u32 0, .int .u16 0, .int .u16 0, .int .u32 0, .int .u16 0] 30)) d1
  have d2 := Cells.new ((w.alloc (.cells #[.int .u8 p] 5)).alloc (.cells #[.int .u32 ei, .int .u16 ep] 28)) #[.int .i64 0, .int .u8 0, .int .u32 0, .int .i64 0, .int .u32 0, .int .i64 0, .int .u32 0, .int .u16 0, .int .u16 0, .int .u32 0, .int .u16 0] 30
  have l0 : Below w.heap.size w (((w.alloc (.cells #[.int .u8 p] 5)).alloc (.cells #[.int .u32 ei, .int .u16 ep] 28)).alloc (.cells #[.int .i64 0, .int .u8 0, .int .u32 0, .int .i64 0, .int .u32 0, .int .i64 0, .int .u32 0, .int .u16 0, .int .u16 0, .int .u32 0, .int .u16 0] 30)) := (bstep (bstep (fresh_below _ _) (fresh_below _ _)) (fresh_below _ _))
  simp only [World.size_alloc, Nat.add_assoc] at d1 d2
  (try simp only [Nat.reduceAdd] at d1 d2)
  have L0 := hide l0; have D0 := hide d0; have D1 := hide d1; have D2 := hide d2
  clear l0 d0 d1 d2
  go_upto_region 1 with fail
  have l0 := L0.out; have d0 := D0.out; have d1 := D1.out; have d2 := D2.out
  clear L0 D0 D1 D2
  generalize (((w.alloc (.cells #[.int .u8 p] 5)).alloc (.cells #[.int .u32 ei, .int .u16 ep] 28)).alloc (.cells #[.int .i64 0, .int .u8 0, .int .u32 0, .int .i64 0, .int .u32 0, .int .i64 0, .int .u32 0, .int .u16 0, .int .u16 0, .int .u32 0, .int .u16 0] 30)) = w1 at *
  have qd2_0 : ∀ W', Below w1.heap.size w1 W' → World.cell? W' ⟨w.heap.size + 2, 0, none⟩ = some (.int .i64 0) := fun W' h => Cells.at_ (Cells.below h d2) 0
  have qd2_1 : ∀ W', Below w1.heap.size w1 W' → World.cell? W' ⟨w.heap.size + 2, 1, none⟩ = some (.int .u8 0) := fun W' h => Cells.at_ (Cells.below h d2) 1
  have qd2_2 : ∀ W', Below w1.heap.size w1 W' → World.cell? W' ⟨w.heap.size + 2, 2, none⟩ = some (.int .u32 0) := fun W' h => Cells.at_ (Cells.below h d2) 2
  have qd2_3 : ∀ W', Below w1.heap.size w1 W' → World.cell? W' ⟨w.heap.size + 2, 3, none⟩ = some (.int .i64 0) := fun W' h => Cells.at_ (Cells.below h d2) 3
  have qd2_4 : ∀ W', Below w1.heap.size w1 W' → World.cell? W' ⟨w.heap.size + 2, 4, none⟩ = some (.int .u32 0) := fun W' h => Cells.at_ (Cells.below h d2) 4
  have qd2_5 : ∀ W', Below w1.heap.size w1 W' → World.cell? W' ⟨w.heap.size + 2, 5, none⟩ = some (.int .i64 0) := fun W' h => Cells.at_ (Cells.below h d2) 5
  have qd2_6 : ∀ W', Below w1.heap.size w1 W' → World.cell? W' ⟨w.heap.size + 2, 6, none⟩ = some (.int .u32 0) := fun W' h => Cells.at_ (Cells.below h d2) 6
  have qd2_7 : ∀ W', Below w1.heap.size w1 W' → World.cell? W' ⟨w.heap.size + 2, 7, none⟩ = some (.int .u16 0) := fun W' h => Cells.at_ (Cells.below h d2) 7
  have qd2_8 : ∀ W', Below w1.heap.size w1 W' → World.cell? W' ⟨w.heap.size + 2, 8, none⟩ = some (.int .u16 0) := fun W' h => Cells.at_ (Cells.below h d2) 8
  have qd2_9 : ∀ W', Below w1.heap.size w1 W' → World.cell? W' ⟨w.heap.size + 2, 9, none⟩ = some (.int .u32 0) := fun W' h => Cells.at_ (Cells.below h d2) 9
  have qd2_10 : ∀ W', Below w1.heap.size w1 W' → World.cell? W' ⟨w.heap.size + 2, 10, none⟩ = some (.int .u16 0) := fun W' h => Cells.at_ (Cells.below h d2) 10
  have fz : ∀ W' i, Below w1.heap.size w1 W' → World.frozen? W' ⟨w.heap.size + 2, i, none⟩ = false := fun W' i h => Cells.free (Cells.below h d2) i
  have bb : Below w1.heap.size w1 w1 := Below.refl _ _
  have L0 := hide l0; have D0 := hide d0; have D1 := hide d1; have D2 := hide d2
  clear l0 d0 d1 d2
  go_wp2_with ((go_at_call 51; (with_reducible refine (C1.out _ (bstep L0.out (by assumption)) (Cells.below (by assumption) D0.out) (Cells.below (by assumption) D1.out)).mono ?_); rintro e2 w2 ⟨rfl, b2⟩; have b2' := bstep (by assumption : Below w1.heap.size w1 _) b2; clear b2))
  have d2 := Cells.below b2' D2.out; have l2 := bstep L0.out b2'
  clear b2' qd2_0 qd2_1 qd2_2 qd2_3 qd2_4 qd2_5 qd2_6 qd2_7 qd2_8 qd2_9 qd2_10 fz bb L0 D0 D1 D2 C1
  have r5 := (Cells.put11 d2 (.int .i64 r1.k) (.int .u8 r1.p) (.int .u32 r1.sa) (.int .i64 r1.sb) (.int .u32 r1.da) (.int .i64 r1.db) (.int .u32 r1.e) (.int .u16 r1.f) (.int .u16 r1.t) (.int .u32 r1.ia) (.int .u16 r1.ip))
  have b5 := (Below.put11 l2 (b := w.heap.size + 2) (by first | exact Nat.le_refl _ | omega) (.int .i64 r1.k) (.int .u8 r1.p) (.int .u32 r1.sa) (.int .i64 r1.sb) (.int .u32 r1.da) (.int .i64 r1.db) (.int .u32 r1.e) (.int .u16 r1.f) (.int .u16 r1.t) (.int .u32 r1.ia) (.int .u16 r1.ip))
  have HR5 := hide r5; have HB5 := hide b5
  clear r5 b5 d2
  generalize (((((((((((w2.setCell ⟨w.heap.size + 2, 0, none⟩ (.int .i64 r1.k)).setCell ⟨w.heap.size + 2, 1, none⟩ (.int .u8 r1.p)).setCell ⟨w.heap.size + 2, 2, none⟩ (.int .u32 r1.sa)).setCell ⟨w.heap.size + 2, 3, none⟩ (.int .i64 r1.sb)).setCell ⟨w.heap.size + 2, 4, none⟩ (.int .u32 r1.da)).setCell ⟨w.heap.size + 2, 5, none⟩ (.int .i64 r1.db)).setCell ⟨w.heap.size + 2, 6, none⟩ (.int .u32 r1.e)).setCell ⟨w.heap.size + 2, 7, none⟩ (.int .u16 r1.f)).setCell ⟨w.heap.size + 2, 8, none⟩ (.int .u16 r1.t)).setCell ⟨w.heap.size + 2, 9, none⟩ (.int .u32 r1.ia)).setCell ⟨w.heap.size + 2, 10, none⟩ (.int .u16 r1.ip)) = W5 at *
  have r5 := HR5.out; have b5 := HB5.out
  clear HR5 HB5
  have xr5_0 : W5.cell? ⟨w.heap.size + 2, 0, none⟩ = some (.int .i64 r1.k) := r5.at_ 0
  have xr5_1 : W5.cell? ⟨w.heap.size + 2, 1, none⟩ = some (.int .u8 r1.p) := r5.at_ 1
  have xr5_2 : W5.cell? ⟨w.heap.size + 2, 2, none⟩ = some (.int .u32 r1.sa) := r5.at_ 2
  have xr5_3 : W5.cell? ⟨w.heap.size + 2, 3, none⟩ = some (.int .i64 r1.sb) := r5.at_ 3
  have xr5_4 : W5.cell? ⟨w.heap.size + 2, 4, none⟩ = some (.int .u32 r1.da) := r5.at_ 4
  have xr5_5 : W5.cell? ⟨w.heap.size + 2, 5, none⟩ = some (.int .i64 r1.db) := r5.at_ 5
  have xr5_6 : W5.cell? ⟨w.heap.size + 2, 6, none⟩ = some (.int .u32 r1.e) := r5.at_ 6
  have xr5_7 : W5.cell? ⟨w.heap.size + 2, 7, none⟩ = some (.int .u16 r1.f) := r5.at_ 7
  have xr5_8 : W5.cell? ⟨w.heap.size + 2, 8, none⟩ = some (.int .u16 r1.t) := r5.at_ 8
  have xr5_9 : W5.cell? ⟨w.heap.size + 2, 9, none⟩ = some (.int .u32 r1.ia) := r5.at_ 9
  have xr5_10 : W5.cell? ⟨w.heap.size + 2, 10, none⟩ = some (.int .u16 r1.ip) := r5.at_ 10
  (try simp only [Exit.inBlock, Exit.then]); refine bodyPost_ret (by simp [results, Try.results28, go_sem, *]; try rfl) rfl ?_
  exact ⟨rfl, b5⟩

set_option maxHeartbeats 4000000 in
set_option maxRecDepth 100000 in
theorem t_Own (w : World) (B : Nat) (o ip b : Int) (v : Value) (l : List Rule) (h : TS w B o ip b l v) (hl : l.length ≤ 1000) (p ei ep : Int) :
    Calls Try.prog 29 #[.pointer (some ⟨B, 0, none⟩), .int .u8 p, .agg #[.int .u32 ei, .int .u16 ep]] w (Ret (.tuple #[.agg (firstR o (owP p ei ep) l).cells, .bool (l.any (owP p ei ep))]) w) := by
  have c1 : ∀ W, Below w.heap.size w W → Cells W (w.heap.size) #[.int .u8 p] 5 → Cells W (w.heap.size + 1) #[.int .u32 ei, .int .u16 ep] 28 → Calls Try.prog 51 #[.pointer (some ⟨B, 0, none⟩), .func (.func 55) #[] #[.pointer (some ⟨w.heap.size, 0, none⟩), .pointer (some ⟨w.heap.size + 1, 0, none⟩)]] W (Ret (.tuple #[.agg (firstR o (owP p ei ep) l).cells, .bool (l.any (owP p ei ep))]) W) := fun W hW k0 k1 => t_first W B o ip b v l (h.below hW) hl (owP p ei ep) 55 _ (enters_of Try.func55 (by kernel_rfl) rfl) (fun W' r hr hb => t_Own1 W' p ei ep r _ _ _ _ (Cells.below hb k0) (Cells.below hb k1))
  generalize firstR o (owP p ei ep) l = r1 at *
  generalize l.any (owP p ei ep) = q at *
  unfold Rule.cells at *
  have C1 := hide c1
  clear c1 h hl
  go_enter Try.func29, Try.ntmps29
  have d0 := Cells.new w #[.int .u8 p] 5
  replace d0 := Cells.below (fresh_below (w.alloc (.cells #[.int .u8 p] 5)) (.cells #[.int .u32 ei, .int .u16 ep] 28)) d0
  have d1 := Cells.new (w.alloc (.cells #[.int .u8 p] 5)) #[.int .u32 ei, .int .u16 ep] 28
  replace d0 := Cells.below (fresh_below ((w.alloc (.cells #[.int .u8 p] 5)).alloc (.cells #[.int .u32 ei, .int .u16 ep] 28)) (.cells #[.int .i64 0, .int .u8 0, .int .u32 0, .int .i64 0, .int .u32 0, .int .i64 0, .int .u32 0, .int .u16 0, .int .u16 0, .int .u32 0, .int .u16 0] 30)) d0
  replace d1 := Cells.below (fresh_below ((w.alloc (.cells #[.int .u8 p] 5)).alloc (.cells #[.int .u32 ei, .int .u16 ep] 28)) (.cells #[.int .i64 0, .int .u8 0, .int .u32 0, .int .i64 0, .int .u32 0, .int .i64 0, .int .u32 0, .int .u16 0, .int .u16 0, .int .u32 0, .int .u16 0] 30)) d1
  have d2 := Cells.new ((w.alloc (.cells #[.int .u8 p] 5)).alloc (.cells #[.int .u32 ei, .int .u16 ep] 28)) #[.int .i64 0, .int .u8 0, .int .u32 0, .int .i64 0, .int .u32 0, .int .i64 0, .int .u32 0, .int .u16 0, .int .u16 0, .int .u32 0, .int .u16 0] 30
  have l0 : Below w.heap.size w (((w.alloc (.cells #[.int .u8 p] 5)).alloc (.cells #[.int .u32 ei, .int .u16 ep] 28)).alloc (.cells #[.int .i64 0, .int .u8 0, .int .u32 0, .int .i64 0, .int .u32 0, .int .i64 0, .int .u32 0, .int .u16 0, .int .u16 0, .int .u32 0, .int .u16 0] 30)) := (bstep (bstep (fresh_below _ _) (fresh_below _ _)) (fresh_below _ _))
  simp only [World.size_alloc, Nat.add_assoc] at d1 d2
  (try simp only [Nat.reduceAdd] at d1 d2)
  have L0 := hide l0; have D0 := hide d0; have D1 := hide d1; have D2 := hide d2
  clear l0 d0 d1 d2
  go_upto_region 1 with fail
  have l0 := L0.out; have d0 := D0.out; have d1 := D1.out; have d2 := D2.out
  clear L0 D0 D1 D2
  generalize (((w.alloc (.cells #[.int .u8 p] 5)).alloc (.cells #[.int .u32 ei, .int .u16 ep] 28)).alloc (.cells #[.int .i64 0, .int .u8 0, .int .u32 0, .int .i64 0, .int .u32 0, .int .i64 0, .int .u32 0, .int .u16 0, .int .u16 0, .int .u32 0, .int .u16 0] 30)) = w1 at *
  have qd2_0 : ∀ W', Below w1.heap.size w1 W' → World.cell? W' ⟨w.heap.size + 2, 0, none⟩ = some (.int .i64 0) := fun W' h => Cells.at_ (Cells.below h d2) 0
  have qd2_1 : ∀ W', Below w1.heap.size w1 W' → World.cell? W' ⟨w.heap.size + 2, 1, none⟩ = some (.int .u8 0) := fun W' h => Cells.at_ (Cells.below h d2) 1
  have qd2_2 : ∀ W', Below w1.heap.size w1 W' → World.cell? W' ⟨w.heap.size + 2, 2, none⟩ = some (.int .u32 0) := fun W' h => Cells.at_ (Cells.below h d2) 2
  have qd2_3 : ∀ W', Below w1.heap.size w1 W' → World.cell? W' ⟨w.heap.size + 2, 3, none⟩ = some (.int .i64 0) := fun W' h => Cells.at_ (Cells.below h d2) 3
  have qd2_4 : ∀ W', Below w1.heap.size w1 W' → World.cell? W' ⟨w.heap.size + 2, 4, none⟩ = some (.int .u32 0) := fun W' h => Cells.at_ (Cells.below h d2) 4
  have qd2_5 : ∀ W', Below w1.heap.size w1 W' → World.cell? W' ⟨w.heap.size + 2, 5, none⟩ = some (.int .i64 0) := fun W' h => Cells.at_ (Cells.below h d2) 5
  have qd2_6 : ∀ W', Below w1.heap.size w1 W' → World.cell? W' ⟨w.heap.size + 2, 6, none⟩ = some (.int .u32 0) := fun W' h => Cells.at_ (Cells.below h d2) 6
  have qd2_7 : ∀ W', Below w1.heap.size w1 W' → World.cell? W' ⟨w.heap.size + 2, 7, none⟩ = some (.int .u16 0) := fun W' h => Cells.at_ (Cells.below h d2) 7
  have qd2_8 : ∀ W', Below w1.heap.size w1 W' → World.cell? W' ⟨w.heap.size + 2, 8, none⟩ = some (.int .u16 0) := fun W' h => Cells.at_ (Cells.below h d2) 8
  have qd2_9 : ∀ W', Below w1.heap.size w1 W' → World.cell? W' ⟨w.heap.size + 2, 9, none⟩ = some (.int .u32 0) := fun W' h => Cells.at_ (Cells.below h d2) 9
  have qd2_10 : ∀ W', Below w1.heap.size w1 W' → World.cell? W' ⟨w.heap.size + 2, 10, none⟩ = some (.int .u16 0) := fun W' h => Cells.at_ (Cells.below h d2) 10
  have fz : ∀ W' i, Below w1.heap.size w1 W' → World.frozen? W' ⟨w.heap.size + 2, i, none⟩ = false := fun W' i h => Cells.free (Cells.below h d2) i
  have bb : Below w1.heap.size w1 w1 := Below.refl _ _
  have L0 := hide l0; have D0 := hide d0; have D1 := hide d1; have D2 := hide d2
  clear l0 d0 d1 d2
  go_wp2_with ((go_at_call 51; (with_reducible refine (C1.out _ (bstep L0.out (by assumption)) (Cells.below (by assumption) D0.out) (Cells.below (by assumption) D1.out)).mono ?_); rintro e2 w2 ⟨rfl, b2⟩; have b2' := bstep (by assumption : Below w1.heap.size w1 _) b2; clear b2))
  have d2 := Cells.below b2' D2.out; have l2 := bstep L0.out b2'
  clear b2' qd2_0 qd2_1 qd2_2 qd2_3 qd2_4 qd2_5 qd2_6 qd2_7 qd2_8 qd2_9 qd2_10 fz bb L0 D0 D1 D2 C1
  have r5 := (Cells.put11 d2 (.int .i64 r1.k) (.int .u8 r1.p) (.int .u32 r1.sa) (.int .i64 r1.sb) (.int .u32 r1.da) (.int .i64 r1.db) (.int .u32 r1.e) (.int .u16 r1.f) (.int .u16 r1.t) (.int .u32 r1.ia) (.int .u16 r1.ip))
  have b5 := (Below.put11 l2 (b := w.heap.size + 2) (by first | exact Nat.le_refl _ | omega) (.int .i64 r1.k) (.int .u8 r1.p) (.int .u32 r1.sa) (.int .i64 r1.sb) (.int .u32 r1.da) (.int .i64 r1.db) (.int .u32 r1.e) (.int .u16 r1.f) (.int .u16 r1.t) (.int .u32 r1.ia) (.int .u16 r1.ip))
  have HR5 := hide r5; have HB5 := hide b5
  clear r5 b5 d2
  generalize (((((((((((w2.setCell ⟨w.heap.size + 2, 0, none⟩ (.int .i64 r1.k)).setCell ⟨w.heap.size + 2, 1, none⟩ (.int .u8 r1.p)).setCell ⟨w.heap.size + 2, 2, none⟩ (.int .u32 r1.sa)).setCell ⟨w.heap.size + 2, 3, none⟩ (.int .i64 r1.sb)).setCell ⟨w.heap.size + 2, 4, none⟩ (.int .u32 r1.da)).setCell ⟨w.heap.size + 2, 5, none⟩ (.int .i64 r1.db)).setCell ⟨w.heap.size + 2, 6, none⟩ (.int .u32 r1.e)).setCell ⟨w.heap.size + 2, 7, none⟩ (.int .u16 r1.f)).setCell ⟨w.heap.size + 2, 8, none⟩ (.int .u16 r1.t)).setCell ⟨w.heap.size + 2, 9, none⟩ (.int .u32 r1.ia)).setCell ⟨w.heap.size + 2, 10, none⟩ (.int .u16 r1.ip)) = W5 at *
  have r5 := HR5.out; have b5 := HB5.out
  clear HR5 HB5
  have xr5_0 : W5.cell? ⟨w.heap.size + 2, 0, none⟩ = some (.int .i64 r1.k) := r5.at_ 0
  have xr5_1 : W5.cell? ⟨w.heap.size + 2, 1, none⟩ = some (.int .u8 r1.p) := r5.at_ 1
  have xr5_2 : W5.cell? ⟨w.heap.size + 2, 2, none⟩ = some (.int .u32 r1.sa) := r5.at_ 2
  have xr5_3 : W5.cell? ⟨w.heap.size + 2, 3, none⟩ = some (.int .i64 r1.sb) := r5.at_ 3
  have xr5_4 : W5.cell? ⟨w.heap.size + 2, 4, none⟩ = some (.int .u32 r1.da) := r5.at_ 4
  have xr5_5 : W5.cell? ⟨w.heap.size + 2, 5, none⟩ = some (.int .i64 r1.db) := r5.at_ 5
  have xr5_6 : W5.cell? ⟨w.heap.size + 2, 6, none⟩ = some (.int .u32 r1.e) := r5.at_ 6
  have xr5_7 : W5.cell? ⟨w.heap.size + 2, 7, none⟩ = some (.int .u16 r1.f) := r5.at_ 7
  have xr5_8 : W5.cell? ⟨w.heap.size + 2, 8, none⟩ = some (.int .u16 r1.t) := r5.at_ 8
  have xr5_9 : W5.cell? ⟨w.heap.size + 2, 9, none⟩ = some (.int .u32 r1.ia) := r5.at_ 9
  have xr5_10 : W5.cell? ⟨w.heap.size + 2, 10, none⟩ = some (.int .u16 r1.ip) := r5.at_ 10
  (try simp only [Exit.inBlock, Exit.then]); refine bodyPost_ret (by simp [results, Try.results29, go_sem, *]; try rfl) rfl ?_
  exact ⟨rfl, b5⟩

set_option maxHeartbeats 4000000 in
set_option maxRecDepth 100000 in
theorem t_Source (w : World) (B : Nat) (o ip b : Int) (v : Value) (l : List Rule) (h : TS w B o ip b l v) (hl : l.length ≤ 1000) (hok : ∀ r ∈ l, r.Ok) (p si sp di dp : Int) (hs : 0 ≤ si ∧ si ≤ 4294967295) (hd : 0 ≤ di ∧ di ≤ 4294967295) :
    Calls Try.prog 23 #[.pointer (some ⟨B, 0, none⟩), .agg #[.int .u8 p, .int .u32 si, .int .u16 sp, .int .u32 di, .int .u16 dp]] w (Ret (.tuple #[.agg (firstR o (srcP p si di) l).cells, .bool (l.any (srcP p si di))]) w) := by
  have c1 : ∀ W, Below w.heap.size w W → Cells W (w.heap.size) #[.int .u8 p, .int .u32 si, .int .u16 sp, .int .u32 di, .int .u16 dp] 49 → Calls Try.prog 51 #[.pointer (some ⟨B, 0, none⟩), .func (.func 52) #[] #[.pointer (some ⟨w.heap.size, 0, none⟩)]] W (Ret (.tuple #[.agg (firstR o (srcP p si di) l).cells, .bool (l.any (srcP p si di))]) W) := fun W hW k0 => t_first W B o ip b v l (h.below hW) hl (srcP p si di) 52 _ (enters_of Try.func52 (by kernel_rfl) rfl) (fun W' r hr hb => t_Source1 W' p si sp di dp r _ _ (Cells.below hb k0) (hok r hr) hs hd)
  generalize firstR o (srcP p si di) l = r1 at *
  generalize l.any (srcP p si di) = q at *
  unfold Rule.cells at *
  have C1 := hide c1
  clear c1 h hl hok hs hd
  go_enter Try.func23, Try.ntmps23
  have d0 := Cells.new w #[.int .u8 p, .int .u32 si, .int .u16 sp, .int .u32 di, .int .u16 dp] 49
  replace d0 := Cells.below (fresh_below (w.alloc (.cells #[.int .u8 p, .int .u32 si, .int .u16 sp, .int .u32 di, .int .u16 dp] 49)) (.cells #[.int .i64 0, .int .u8 0, .int .u32 0, .int .i64 0, .int .u32 0, .int .i64 0, .int .u32 0, .int .u16 0, .int .u16 0, .int .u32 0, .int .u16 0] 30)) d0
  have d1 := Cells.new (w.alloc (.cells #[.int .u8 p, .int .u32 si, .int .u16 sp, .int .u32 di, .int .u16 dp] 49)) #[.int .i64 0, .int .u8 0, .int .u32 0, .int .i64 0, .int .u32 0, .int .i64 0, .int .u32 0, .int .u16 0, .int .u16 0, .int .u32 0, .int .u16 0] 30
  have l0 : Below w.heap.size w ((w.alloc (.cells #[.int .u8 p, .int .u32 si, .int .u16 sp, .int .u32 di, .int .u16 dp] 49)).alloc (.cells #[.int .i64 0, .int .u8 0, .int .u32 0, .int .i64 0, .int .u32 0, .int .i64 0, .int .u32 0, .int .u16 0, .int .u16 0, .int .u32 0, .int .u16 0] 30)) := (bstep (fresh_below _ _) (fresh_below _ _))
  simp only [World.size_alloc, Nat.add_assoc] at d1
  (try simp only [Nat.reduceAdd] at d1)
  have L0 := hide l0; have D0 := hide d0; have D1 := hide d1
  clear l0 d0 d1
  go_upto_region 1 with fail
  have l0 := L0.out; have d0 := D0.out; have d1 := D1.out
  clear L0 D0 D1
  generalize ((w.alloc (.cells #[.int .u8 p, .int .u32 si, .int .u16 sp, .int .u32 di, .int .u16 dp] 49)).alloc (.cells #[.int .i64 0, .int .u8 0, .int .u32 0, .int .i64 0, .int .u32 0, .int .i64 0, .int .u32 0, .int .u16 0, .int .u16 0, .int .u32 0, .int .u16 0] 30)) = w1 at *
  have qd1_0 : ∀ W', Below w1.heap.size w1 W' → World.cell? W' ⟨w.heap.size + 1, 0, none⟩ = some (.int .i64 0) := fun W' h => Cells.at_ (Cells.below h d1) 0
  have qd1_1 : ∀ W', Below w1.heap.size w1 W' → World.cell? W' ⟨w.heap.size + 1, 1, none⟩ = some (.int .u8 0) := fun W' h => Cells.at_ (Cells.below h d1) 1
  have qd1_2 : ∀ W', Below w1.heap.size w1 W' → World.cell? W' ⟨w.heap.size + 1, 2, none⟩ = some (.int .u32 0) := fun W' h => Cells.at_ (Cells.below h d1) 2
  have qd1_3 : ∀ W', Below w1.heap.size w1 W' → World.cell? W' ⟨w.heap.size + 1, 3, none⟩ = some (.int .i64 0) := fun W' h => Cells.at_ (Cells.below h d1) 3
  have qd1_4 : ∀ W', Below w1.heap.size w1 W' → World.cell? W' ⟨w.heap.size + 1, 4, none⟩ = some (.int .u32 0) := fun W' h => Cells.at_ (Cells.below h d1) 4
  have qd1_5 : ∀ W', Below w1.heap.size w1 W' → World.cell? W' ⟨w.heap.size + 1, 5, none⟩ = some (.int .i64 0) := fun W' h => Cells.at_ (Cells.below h d1) 5
  have qd1_6 : ∀ W', Below w1.heap.size w1 W' → World.cell? W' ⟨w.heap.size + 1, 6, none⟩ = some (.int .u32 0) := fun W' h => Cells.at_ (Cells.below h d1) 6
  have qd1_7 : ∀ W', Below w1.heap.size w1 W' → World.cell? W' ⟨w.heap.size + 1, 7, none⟩ = some (.int .u16 0) := fun W' h => Cells.at_ (Cells.below h d1) 7
  have qd1_8 : ∀ W', Below w1.heap.size w1 W' → World.cell? W' ⟨w.heap.size + 1, 8, none⟩ = some (.int .u16 0) := fun W' h => Cells.at_ (Cells.below h d1) 8
  have qd1_9 : ∀ W', Below w1.heap.size w1 W' → World.cell? W' ⟨w.heap.size + 1, 9, none⟩ = some (.int .u32 0) := fun W' h => Cells.at_ (Cells.below h d1) 9
  have qd1_10 : ∀ W', Below w1.heap.size w1 W' → World.cell? W' ⟨w.heap.size + 1, 10, none⟩ = some (.int .u16 0) := fun W' h => Cells.at_ (Cells.below h d1) 10
  have fz : ∀ W' i, Below w1.heap.size w1 W' → World.frozen? W' ⟨w.heap.size + 1, i, none⟩ = false := fun W' i h => Cells.free (Cells.below h d1) i
  have bb : Below w1.heap.size w1 w1 := Below.refl _ _
  have L0 := hide l0; have D0 := hide d0; have D1 := hide d1
  clear l0 d0 d1
  go_wp2_with ((go_at_call 51; (with_reducible refine (C1.out _ (bstep L0.out (by assumption)) (Cells.below (by assumption) D0.out)).mono ?_); rintro e2 w2 ⟨rfl, b2⟩; have b2' := bstep (by assumption : Below w1.heap.size w1 _) b2; clear b2))
  have d2 := Cells.below b2' D1.out; have l2 := bstep L0.out b2'
  clear b2' qd1_0 qd1_1 qd1_2 qd1_3 qd1_4 qd1_5 qd1_6 qd1_7 qd1_8 qd1_9 qd1_10 fz bb L0 D0 D1 C1
  have r5 := (Cells.put11 d2 (.int .i64 r1.k) (.int .u8 r1.p) (.int .u32 r1.sa) (.int .i64 r1.sb) (.int .u32 r1.da) (.int .i64 r1.db) (.int .u32 r1.e) (.int .u16 r1.f) (.int .u16 r1.t) (.int .u32 r1.ia) (.int .u16 r1.ip))
  have b5 := (Below.put11 l2 (b := w.heap.size + 1) (by first | exact Nat.le_refl _ | omega) (.int .i64 r1.k) (.int .u8 r1.p) (.int .u32 r1.sa) (.int .i64 r1.sb) (.int .u32 r1.da) (.int .i64 r1.db) (.int .u32 r1.e) (.int .u16 r1.f) (.int .u16 r1.t) (.int .u32 r1.ia) (.int .u16 r1.ip))
  have HR5 := hide r5; have HB5 := hide b5
  clear r5 b5 d2
  generalize (((((((((((w2.setCell ⟨w.heap.size + 1, 0, none⟩ (.int .i64 r1.k)).setCell ⟨w.heap.size + 1, 1, none⟩ (.int .u8 r1.p)).setCell ⟨w.heap.size + 1, 2, none⟩ (.int .u32 r1.sa)).setCell ⟨w.heap.size + 1, 3, none⟩ (.int .i64 r1.sb)).setCell ⟨w.heap.size + 1, 4, none⟩ (.int .u32 r1.da)).setCell ⟨w.heap.size + 1, 5, none⟩ (.int .i64 r1.db)).setCell ⟨w.heap.size + 1, 6, none⟩ (.int .u32 r1.e)).setCell ⟨w.heap.size + 1, 7, none⟩ (.int .u16 r1.f)).setCell ⟨w.heap.size + 1, 8, none⟩ (.int .u16 r1.t)).setCell ⟨w.heap.size + 1, 9, none⟩ (.int .u32 r1.ia)).setCell ⟨w.heap.size + 1, 10, none⟩ (.int .u16 r1.ip)) = W5 at *
  have r5 := HR5.out; have b5 := HB5.out
  clear HR5 HB5
  have xr5_0 : W5.cell? ⟨w.heap.size + 1, 0, none⟩ = some (.int .i64 r1.k) := r5.at_ 0
  have xr5_1 : W5.cell? ⟨w.heap.size + 1, 1, none⟩ = some (.int .u8 r1.p) := r5.at_ 1
  have xr5_2 : W5.cell? ⟨w.heap.size + 1, 2, none⟩ = some (.int .u32 r1.sa) := r5.at_ 2
  have xr5_3 : W5.cell? ⟨w.heap.size + 1, 3, none⟩ = some (.int .i64 r1.sb) := r5.at_ 3
  have xr5_4 : W5.cell? ⟨w.heap.size + 1, 4, none⟩ = some (.int .u32 r1.da) := r5.at_ 4
  have xr5_5 : W5.cell? ⟨w.heap.size + 1, 5, none⟩ = some (.int .i64 r1.db) := r5.at_ 5
  have xr5_6 : W5.cell? ⟨w.heap.size + 1, 6, none⟩ = some (.int .u32 r1.e) := r5.at_ 6
  have xr5_7 : W5.cell? ⟨w.heap.size + 1, 7, none⟩ = some (.int .u16 r1.f) := r5.at_ 7
  have xr5_8 : W5.cell? ⟨w.heap.size + 1, 8, none⟩ = some (.int .u16 r1.t) := r5.at_ 8
  have xr5_9 : W5.cell? ⟨w.heap.size + 1, 9, none⟩ = some (.int .u32 r1.ia) := r5.at_ 9
  have xr5_10 : W5.cell? ⟨w.heap.size + 1, 10, none⟩ = some (.int .u16 r1.ip) := r5.at_ 10
  (try simp only [Exit.inBlock, Exit.then]); refine bodyPost_ret (by simp [results, Try.results23, go_sem, *]; try rfl) rfl ?_
  exact ⟨rfl, b5⟩
end Go.Proofs.Ytbboajhdijabbaa
