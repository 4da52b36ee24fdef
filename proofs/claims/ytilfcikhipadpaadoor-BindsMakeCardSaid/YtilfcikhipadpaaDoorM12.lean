/- Several texts of this claim, one behind the other. -/
import Derived.Test.YtilfcikhipadpaaDoorM11

section
/- rules: Static, Own, Source. -/
set_option linter.unusedVariables false
set_option linter.unusedSimpArgs false
namespace Go.Proofs.YtilfcikhipadpaaDoor
open Go.RowKit Go.Lib
attribute [local go_sem] Oper.semAt_some

set_option maxHeartbeats 4000000 in
set_option maxRecDepth 100000 in
theorem t_Static (w : World) (B : Nat) (o ip b : Int) (v : Value) (l : List Rule) (h : TS w B o ip b l v) (hl : l.length ≤ 1000) (p ei ep : Int) :
    Calls Tryd.prog 36 #[.pointer (some ⟨B, 0, none⟩), .int .u8 p, .agg #[.int .u32 ei, .int .u16 ep]] w (Ret (.tuple #[.agg (firstR o (stP p ei ep) l).cells, .bool (l.any (stP p ei ep))]) w) := by
  have c1 : ∀ W, Below w.heap.size w W → Cells W (w.heap.size) #[.int .u8 p] 5 → Cells W (w.heap.size + 1) #[.int .u32 ei, .int .u16 ep] 26 → Calls Tryd.prog 48 #[.pointer (some ⟨B, 0, none⟩), .func (.func 49) #[] #[.pointer (some ⟨w.heap.size, 0, none⟩), .pointer (some ⟨w.heap.size + 1, 0, none⟩)]] W (Ret (.tuple #[.agg (firstR o (stP p ei ep) l).cells, .bool (l.any (stP p ei ep))]) W) := fun W hW k0 k1 => t_first W B o ip b v l (h.below hW) hl (stP p ei ep) 49 _ (enters_of Tryd.func49 (by kernel_rfl) rfl) (fun W' r hr hb => t_Static1 W' p ei ep r _ _ _ _ (Cells.below hb k0) (Cells.below hb k1))
  generalize firstR o (stP p ei ep) l = r1 at *
  generalize l.any (stP p ei ep) = q at *
  unfold Rule.cells at *
  have C1 := hide c1
  clear c1 h hl
  go_enter Tryd.func36, Tryd.ntmps36
  have d0 := Cells.new w #[.int .u8 p] 5
  replace d0 := Cells.below (fresh_below (w.alloc (.cells #[.int .u8 p] 5)) (.cells #[.int .u32 ei, .int .u16 ep] 26)) d0
  have d1 := Cells.new (w.alloc (.cells #[.int .u8 p] 5)) #[.int .u32 ei, .int .u16 ep] 26
  replace d0 := Cells.below (fresh_below ((w.alloc (.cells #[.int .u8 p] 5)).alloc (.cells #[.int .u32 ei, .int .u16 ep] 26)) (.cells #[.int .i64 0, .int .u8 0, .int .u32 0, .int .i64 0, .int .u32 0, .int .i64 0, .int .u32 0, .int .u16 0, .int .u16 0, .int .u32 0, .int .u16 0] 77)) d0
  replace d1 := Cells.below (fresh_below ((w.alloc (.cells #[.int .u8 p] 5)).alloc (.cells #[.int .u32 ei, .int .u16 ep] 26)) (.cells #[.int .i64 0, .int .u8 0, .int .u32 0, .int .i64 0, .int .u32 0, .int .i64 0, .int .u32 0, .int .u16 0, .int .u16 0, .int .u32 0, .int .u16 0] 77)) d1
  have d2 := Cells.new ((w.alloc (.cells #[.int .u8 p] 5)).alloc (.cells #[.int .u32 ei, .int .u16 ep] 26)) #[.int .i64 0, .int .u8 0, .int .u32 0, .int .i64 0, .int .u32 0, .int .i64 0, .int .u32 0, .int .u16 0, .int .u16 0, .int .u32 0, .int .u16 0] 77
  have l0 : Below w.heap.size w (((w.alloc (.cells #[.int .u8 p] 5)).alloc (.cells #[.int .u32 ei, .int .u16 ep] 26)).alloc (.cells #[.int .i64 0, .int .u8 0, .int .u32 0, .int .i64 0, .int .u32 0, .int .i64 0, .int .u32 0, .int .u16 0, .int .u16 0, .int .u32 0, .int .u16 0] 77)) := (bstep (bstep (fresh_below _ _) (fresh_below _ _)) (fresh_below _ _))
  simp only [World.size_alloc, Nat.add_assoc] at d1 d2
  (try simp only [Nat.reduceAdd] at d1 d2)
  have L0 := hide l0; have D0 := hide d0; have D1 := hide d1; have D2 := hide d2
  clear l0 d0 d1 d2
  go_upto_region 1 with fail
  have l0 := L0.out; have d0 := D0.out; have d1 := D1.out; have d2 := D2.out
  clear L0 D0 D1 D2
  generalize (((w.alloc (.cells #[.int .u8 p] 5)).alloc (.cells #[.int .u32 ei, .int .u16 ep] 26)).alloc (.cells #[.int .i64 0, .int .u8 0, .int .u32 0, .int .i64 0, .int .u32 0, .int .i64 0, .int .u32 0, .int .u16 0, .int .u16 0, .int .u32 0, .int .u16 0] 77)) = w1 at *
  have qd2_0 : ∀ W', Below w1.heap.size w1 W' → World.cell? W' ⟨w.heap.size + 2, 0, none⟩ = some (.int .i64 0) := fun W' h => Cells.at_ (Cells.below h d2) 0
  have qd2_1 : ∀ W', Below w1.heap.size w1 W' → World.cell? W' ⟨w.heap.size + 2, 1, none⟩ = some (.int .u8 0) := fun W' h => Cells.at_ (Cells.below h d2) 1
  have qd2_2 : ∀ W', Below w1.heap.size w1 W' → World.cell? W' ⟨w.heap.size + 2, 2, none⟩ = some (.int .u32 0) := fun W' h => Cells.at_ (Cells.below h d2) 2
  have qd2_3 : ∀ W', Below w1.heap.size w1 W' → World.cell? W' ⟨w.heap.size + 2, 3, none⟩ = some (.int .i64 0) := fun W' h => Cells.at_ (Cells.below h d2) 3
  have qd2_4 : ∀ W', Below w1.heap.size w1 W' → World.cell? W' ⟨w.heap.size + 2, 4, none⟩ = some (.int .u32 0) := fun W' h => Cells.at_ (Cells.below h d2) 4
  have qd2_5 : ∀ W', Below w1.heap.size w1 W' → World.cell? W' ⟨w.heap.size + 2, 5, none⟩ = some (.int .i64 0) := fun W' h => Cells.at_ (Cells.below h d2) 5
  have qd2_6 : ∀ W', Below w1.heap.size w1 W' → World.cell? W' ⟨w.heap.size + 2, 6, none⟩ = some (.int .u32 0) := fun W' h => Cells.at_ (Cells.below h d2) 6
  have qd2_7 : ∀ W', Below w1.heap.size w1 W' → World.cell? W' ⟨w.heap.size + 2, 7, none⟩ = some (.int .u16 0) := fun W' h => Cells.at_ (Cells.below h d2) 7
  have qd2_8 : ∀ W', Below w1.heap.size w1 W' → World.cell? W' ⟨w.heap.size + 2, 8, none⟩ = some (.int .u16 0) := fun W' h => Cells.at_ (Cells.below h d2) 8
  have qd2_9 : ∀ W', Below w1.heap.size w1 W' → World.cell? W' ⟨w.heap.size + 2, 9, none⟩ = some (.int .u32 0) := fun W' h => Cells.at_ (Cells.below h d2) 9
  have qd2_10 : ∀ W', Below w1.heap.size w1 W' → World.cell? W' ⟨w.heap.size + 2, 10, none⟩ = some (.int .u16 0) := fun W' h => Cells.at_ (Cells.below h d2) 10
  have fz : ∀ W' i, Below w1.heap.size w1 W' → World.frozen? W' ⟨w.heap.size + 2, i, none⟩ = false := fun W' i h => Cells.free (Cells.below h d2) i
  have bb : Below w1.heap.size w1 w1 := Below.refl _ _
  have L0 := hide l0; have D0 := hide d0; have D1 := hide d1; have D2 := hide d2
  clear l0 d0 d1 d2
  go_wp2_with ((go_at_call 48; (with_reducible refine (C1.out _ (bstep L0.out (by assumption)) (Cells.below (by assumption) D0.out) (Cells.below (by assumption) D1.out)).mono ?_); rintro e2 w2 ⟨rfl, b2⟩; have b2' := bstep (by assumption : Below w1.heap.size w1 _) b2; clear b2))
  have d2 := Cells.below b2' D2.out; have l2 := bstep L0.out b2'
  clear b2' qd2_0 qd2_1 qd2_2 qd2_3 qd2_4 qd2_5 qd2_6 qd2_7 qd2_8 qd2_9 qd2_10 fz bb L0 D0 D1 D2 C1
  have r5 := (Cells.put11 d2 (.int .i64 r1.k) (.int .u8 r1.p) (.int .u32 r1.sa) (.int .i64 r1.sb) (.int .u32 r1.da) (.int .i64 r1.db) (.int .u32 r1.e) (.int .u16 r1.f) (.int .u16 r1.t) (.int .u32 r1.ia) (.int .u16 r1.ip))
  have b5 := (Below.put11 l2 (b := w.heap.size + 2) (by first | exact Nat.le_refl _ | omega) (.int .i64 r1.k) (.int .u8 r1.p) (.int .u32 r1.sa) (.int .i64 r1.sb) (.int .u32 r1.da) (.int .i64 r1.db) (.int .u32 r1.e) (.int .u16 r1.f) (.int .u16 r1.t) (.int .u32 r1.ia) (.int .u16 r1.ip))
  have HR5 := hide r5; have HB5 := hide b5
  clear r5 b5 d2
  generalize (((((((((((w2.setCell ⟨w.heap.size + 2, 0, none⟩ (.int .i64 r1.k)).setCell ⟨w.heap.size + 2, 1, none⟩ (.int .u8 r1.p)).setCell ⟨w.heap.size + 2, 2, none⟩ (.int .u32 r1.sa)).setCell ⟨w.heap.size + 2, 3, none⟩ (.int .i64 r1.sb)).setCell ⟨w.heap.size + 2, 4, none⟩ (.int .u32 r1.da)).setCell ⟨w.heap.size + 2, 5, none⟩ (.int .i64 r1.db)).setCell ⟨w.heap.size + 2, 6, none⟩ (.int .u32 r1.e)).setCell ⟨w.heap.size + 2, 7, none⟩ (.int .u16 r1.f)).setCell ⟨w.heap.size + 2, 8, none⟩ (.int .u16 r1.t)).setCell ⟨w.heap.size + 2, 9, none⟩ (.int .u32 r1.ia)).setCell ⟨w.heap.size + 2, 10, none⟩ (.int .u16 r1.ip)) = W5 at *
  have r5 := HR5.out; have b5 := HB5.out
  clear HR5 HB5
  have xr5_0 : W5.cell? ⟨w.heap.size + 2, 0, none⟩ = some (.int .i64 r1.k) := r5.at_ 0
  have xr5_1 : W5.cell? ⟨w.heap.size + 2, 1, none⟩ = some (.int .u8 r1.p) := r5.at_ 1
  have xr5_2 : W5.cell? ⟨w.heap.size + 2, 2, none⟩ = some (.int .u32 r1.sa) := r5.at_ 2
  have xr5_3 : W5.cell? ⟨w.heap.size + 2, 3, none⟩ = some (.int .i64 r1.sb) := r5.at_ 3
  have xr5_4 : W5.cell? ⟨w.heap.size + 2, 4, none⟩ = some (.int .u32 r1.da) := r5.at_ 4
  have xr5_5 : W5.cell? ⟨w.heap.size + 2, 5, none⟩ = some (.int .i64 r1.db) := r5.at_ 5
  have xr5_6 : W5.cell? ⟨w.heap.size + 2, 6, none⟩ = some (.int .u32 r1.e) := r5.at_ 6
  have xr5_7 : W5.cell? ⟨w.heap.size + 2, 7, none⟩ = some (.int .u16 r1.f) := r5.at_ 7
  have xr5_8 : W5.cell? ⟨w.heap.size + 2, 8, none⟩ = some (.int .u16 r1.t) := r5.at_ 8
  have xr5_9 : W5.cell? ⟨w.heap.size + 2, 9, none⟩ = some (.int .u32 r1.ia) := r5.at_ 9
  have xr5_10 : W5.cell? ⟨w.heap.size + 2, 10, none⟩ = some (.int .u16 r1.ip) := r5.at_ 10
  (try simp only [Exit.inBlock, Exit.then]); refine bodyPost_ret (by simp [results, Tryd.results36, go_sem, *]; try rfl) rfl ?_
  exact ⟨rfl, b5⟩

set_option maxHeartbeats 4000000 in
set_option maxRecDepth 100000 in
theorem t_Own (w : World) (B : Nat) (o ip b : Int) (v : Value) (l : List Rule) (h : TS w B o ip b l v) (hl : l.length ≤ 1000) (p ei ep : Int) :
    Calls Tryd.prog 51 #[.pointer (some ⟨B, 0, none⟩), .int .u8 p, .agg #[.int .u32 ei, .int .u16 ep]] w (Ret (.tuple #[.agg (firstR o (owP p ei ep) l).cells, .bool (l.any (owP p ei ep))]) w) := by
  have c1 : ∀ W, Below w.heap.size w W → Cells W (w.heap.size) #[.int .u8 p] 5 → Cells W (w.heap.size + 1) #[.int .u32 ei, .int .u16 ep] 26 → Calls Tryd.prog 48 #[.pointer (some ⟨B, 0, none⟩), .func (.func 55) #[] #[.pointer (some ⟨w.heap.size, 0, none⟩), .pointer (some ⟨w.heap.size + 1, 0, none⟩)]] W (Ret (.tuple #[.agg (firstR o (owP p ei ep) l).cells, .bool (l.any (owP p ei ep))]) W) := fun W hW k0 k1 => t_first W B o ip b v l (h.below hW) hl (owP p ei ep) 55 _ (enters_of Tryd.func55 (by kernel_rfl) rfl) (fun W' r hr hb => t_Own1 W' p ei ep r _ _ _ _ (Cells.below hb k0) (Cells.below hb k1))
  generalize firstR o (owP p ei ep) l = r1 at *
  generalize l.any (owP p ei ep) = q at *
  unfold Rule.cells at *
  have C1 := hide c1
  clear c1 h hl
  go_enter Tryd.func51, Tryd.ntmps51
  have d0 := Cells.new w #[.int .u8 p] 5
  replace d0 := Cells.below (fresh_below (w.alloc (.cells #[.int .u8 p] 5)) (.cells #[.int .u32 ei, .int .u16 ep] 26)) d0
  have d1 := Cells.new (w.alloc (.cells #[.int .u8 p] 5)) #[.int .u32 ei, .int .u16 ep] 26
  replace d0 := Cells.below (fresh_below ((w.alloc (.cells #[.int .u8 p] 5)).alloc (.cells #[.int .u32 ei, .int .u16 ep] 26)) (.cells #[.int .i64 0, .int .u8 0, .int .u32 0, .int .i64 0, .int .u32 0, .int .i64 0, .int .u32 0, .int .u16 0, .int .u16 0, .int .u32 0, .int .u16 0] 77)) d0
  replace d1 := Cells.below (fresh_below ((w.alloc (.cells #[.int .u8 p] 5)).alloc (.cells #[.int .u32 ei, .int .u16 ep] 26)) (.cells #[.int .i64 0, .int .u8 0, .int .u32 0, .int .i64 0, .int .u32 0, .int .i64 0, .int .u32 0, .int .u16 0, .int .u16 0, .int .u32 0, .int .u16 0] 77)) d1
  have d2 := Cells.new ((w.alloc (.cells #[.int .u8 p] 5)).alloc (.cells #[.int .u32 ei, .int .u16 ep] 26)) #[.int .i64 0, .int .u8 0, .int .u32 0, .int .i64 0, .int .u32 0, .int .i64 0, .int .u32 0, .int .u16 0, .int .u16 0, .int .u32 0, .int .u16 0] 77
  have l0 : Below w.heap.size w (((w.alloc (.cells #[.int .u8 p] 5)).alloc (.cells #[.int .u32 ei, .int .u16 ep] 26)).alloc (.cells #[.int .i64 0, .int .u8 0, .int .u32 0, .int .i64 0, .int .u32 0, .int .i64 0, .int .u32 0, .int .u16 0, .int .u16 0, .int .u32 0, .int .u16 0] 77)) := (bstep (bstep (fresh_below _ _) (fresh_below _ _)) (fresh_below _ _))
  simp only [World.size_alloc, Nat.add_assoc] at d1 d2
  (try simp only [Nat.reduceAdd] at d1 d2)
  have L0 := hide l0; have D0 := hide d0; have D1 := hide d1; have D2 := hide d2
  clear l0 d0 d1 d2
  go_upto_region 1 with fail
  have l0 := L0.out; have d0 := D0.out; have d1 := D1.out; have d2 := D2.out
  clear L0 D0 D1 D2
  generalize (((w.alloc (.cells #[.int .u8 p] 5)).alloc (.cells #[.int .u32 ei, .int .u16 ep] 26)).alloc (.cells #[.int .i64 0, .int .u8 0, .int .u32 0, .int .i64 0, .int .u32 0, .int .i64 0, .int .u32 0, .int .u16 0, .int .u16 0, .int .u32 0, .int .u16 0] 77)) = w1 at *
  have qd2_0 : ∀ W', Below w1.heap.size w1 W' → World.cell? W' ⟨w.heap.size + 2, 0, none⟩ = some (.int .i64 0) := fun W' h => Cells.at_ (Cells.below h d2) 0
  have qd2_1 : ∀ W', Below w1.heap.size w1 W' → World.cell? W' ⟨w.heap.size + 2, 1, none⟩ = some (.int .u8 0) := fun W' h => Cells.at_ (Cells.below h d2) 1
  have qd2_2 : ∀ W', Below w1.heap.size w1 W' → World.cell? W' ⟨w.heap.size + 2, 2, none⟩ = some (.int .u32 0) := fun W' h => Cells.at_ (Cells.below h d2) 2
  have qd2_3 : ∀ W', Below w1.heap.size w1 W' → World.cell? W' ⟨w.heap.size + 2, 3, none⟩ = some (.int .i64 0) := fun W' h => Cells.at_ (Cells.below h d2) 3
  have qd2_4 : ∀ W', Below w1.heap.size w1 W' → World.cell? W' ⟨w.heap.size + 2, 4, none⟩ = some (.int .u32 0) := fun W' h => Cells.at_ (Cells.below h d2) 4
  have qd2_5 : ∀ W', Below w1.heap.size w1 W' → World.cell? W' ⟨w.heap.size + 2, 5, none⟩ = some (.int .i64 0) := fun W' h => Cells.at_ (Cells.below h d2) 5
  have qd2_6 : ∀ W', Below w1.heap.size w1 W' → World.cell? W' ⟨w.heap.size + 2, 6, none⟩ = some (.int .u32 0) := fun W' h => Cells.at_ (Cells.below h d2) 6
  have qd2_7 : ∀ W', Below w1.heap.size w1 W' → World.cell? W' ⟨w.heap.size + 2, 7, none⟩ = some (.int .u16 0) := fun W' h => Cells.at_ (Cells.below h d2) 7
  have qd2_8 : ∀ W', Below w1.heap.size w1 W' → World.cell? W' ⟨w.heap.size + 2, 8, none⟩ = some (.int .u16 0) := fun W' h => Cells.at_ (Cells.below h d2) 8
  have qd2_9 : ∀ W', Below w1.heap.size w1 W' → World.cell? W' ⟨w.heap.size + 2, 9, none⟩ = some (.int .u32 0) := fun W' h => Cells.at_ (Cells.below h d2) 9
  have qd2_10 : ∀ W', Below w1.heap.size w1 W' → World.cell? W' ⟨w.heap.size + 2, 10, none⟩ = some (.int .u16 0) := fun W' h => Cells.at_ (Cells.below h d2) 10
  have fz : ∀ W' i, Below w1.heap.size w1 W' → World.frozen? W' ⟨w.heap.size + 2, i, none⟩ = false := fun W' i h => Cells.free (Cells.below h d2) i
  have bb : Below w1.heap.size w1 w1 := Below.refl _ _
  have L0 := hide l0; have D0 := hide d0; have D1 := hide d1; have D2 := hide d2
  clear l0 d0 d1 d2
  go_wp2_with ((go_at_call 48; (with_reducible refine (C1.out _ (bstep L0.out (by assumption)) (Cells.below (by assumption) D0.out) (Cells.below (by assumption) D1.out)).mono ?_); rintro e2 w2 ⟨rfl, b2⟩; have b2' := bstep (by assumption : Below w1.heap.size w1 _) b2; clear b2))
  have d2 := Cells.below b2' D2.out; have l2 := bstep L0.out b2'
  clear b2' qd2_0 qd2_1 qd2_2 qd2_3 qd2_4 qd2_5 qd2_6 qd2_7 qd2_8 qd2_9 qd2_10 fz bb L0 D0 D1 D2 C1
  have r5 := (Cells.put11 d2 (.int .i64 r1.k) (.int .u8 r1.p) (.int .u32 r1.sa) (.int .i64 r1.sb) (.int .u32 r1.da) (.int .i64 r1.db) (.int .u32 r1.e) (.int .u16 r1.f) (.int .u16 r1.t) (.int .u32 r1.ia) (.int .u16 r1.ip))
  have b5 := (Below.put11 l2 (b := w.heap.size + 2) (by first | exact Nat.le_refl _ | omega) (.int .i64 r1.k) (.int .u8 r1.p) (.int .u32 r1.sa) (.int .i64 r1.sb) (.int .u32 r1.da) (.int .i64 r1.db) (.int .u32 r1.e) (.int .u16 r1.f) (.int .u16 r1.t) (.int .u32 r1.ia) (.int .u16 r1.ip))
  have HR5 := hide r5; have HB5 := hide b5
  clear r5 b5 d2
  generalize (((((((((((w2.setCell ⟨w.heap.size + 2, 0, none⟩ (.int .i64 r1.k)).setCell ⟨w.heap.size + 2, 1, none⟩ (.int .u8 r1.p)).setCell ⟨w.heap.size + 2, 2, none⟩ (.int .u32 r1.sa)).setCell ⟨w.heap.size + 2, 3, none⟩ (.int .i64 r1.sb)).setCell ⟨w.heap.size + 2, 4, none⟩ (.int .u32 r1.da)).setCell ⟨w.heap.size + 2, 5, none⟩ (.int .i64 r1.db)).setCell ⟨w.heap.size + 2, 6, none⟩ (.int .u32 r1.e)).setCell ⟨w.heap.size + 2, 7, none⟩ (.int .u16 r1.f)).setCell ⟨w.heap.size + 2, 8, none⟩ (.int .u16 r1.t)).setCell ⟨w.heap.size + 2, 9, none⟩ (.int .u32 r1.ia)).setCell ⟨w.heap.size + 2, 10, none⟩ (.int .u16 r1.ip)) = W5 at *
  have r5 := HR5.out; have b5 := HB5.out
  clear HR5 HB5
  have xr5_0 : W5.cell? ⟨w.heap.size + 2, 0, none⟩ = some (.int .i64 r1.k) := r5.at_ 0
  have xr5_1 : W5.cell? ⟨w.heap.size + 2, 1, none⟩ = some (.int .u8 r1.p) := r5.at_ 1
  have xr5_2 : W5.cell? ⟨w.heap.size + 2, 2, none⟩ = some (.int .u32 r1.sa) := r5.at_ 2
  have xr5_3 : W5.cell? ⟨w.heap.size + 2, 3, none⟩ = some (.int .i64 r1.sb) := r5.at_ 3
  have xr5_4 : W5.cell? ⟨w.heap.size + 2, 4, none⟩ = some (.int .u32 r1.da) := r5.at_ 4
  have xr5_5 : W5.cell? ⟨w.heap.size + 2, 5, none⟩ = some (.int .i64 r1.db) := r5.at_ 5
  have xr5_6 : W5.cell? ⟨w.heap.size + 2, 6, none⟩ = some (.int .u32 r1.e) := r5.at_ 6
  have xr5_7 : W5.cell? ⟨w.heap.size + 2, 7, none⟩ = some (.int .u16 r1.f) := r5.at_ 7
  have xr5_8 : W5.cell? ⟨w.heap.size + 2, 8, none⟩ = some (.int .u16 r1.t) := r5.at_ 8
  have xr5_9 : W5.cell? ⟨w.heap.size + 2, 9, none⟩ = some (.int .u32 r1.ia) := r5.at_ 9
  have xr5_10 : W5.cell? ⟨w.heap.size + 2, 10, none⟩ = some (.int .u16 r1.ip) := r5.at_ 10
  (try simp only [Exit.inBlock, Exit.then]); refine bodyPost_ret (by simp [results, Tryd.results51, go_sem, *]; try rfl) rfl ?_
  exact ⟨rfl, b5⟩

set_option maxHeartbeats 4000000 in
set_option maxRecDepth 100000 in
theorem t_Source (w : World) (B : Nat) (o ip b : Int) (v : Value) (l : List Rule) (h : TS w B o ip b l v) (hl : l.length ≤ 1000) (hok : ∀ r ∈ l, r.Ok) (p si sp di dp : Int) (hs : 0 ≤ si ∧ si ≤ 4294967295) (hd : 0 ≤ di ∧ di ≤ 4294967295) :
    Calls Tryd.prog 52 #[.pointer (some ⟨B, 0, none⟩), .agg #[.int .u8 p, .int .u32 si, .int .u16 sp, .int .u32 di, .int .u16 dp]] w (Ret (.tuple #[.agg (firstR o (srcP p si di) l).cells, .bool (l.any (srcP p si di))]) w) := by
  have c1 : ∀ W, Below w.heap.size w W → Cells W (w.heap.size) #[.int .u8 p, .int .u32 si, .int .u16 sp, .int .u32 di, .int .u16 dp] 28 → Calls Tryd.prog 48 #[.pointer (some ⟨B, 0, none⟩), .func (.func 56) #[] #[.pointer (some ⟨w.heap.size, 0, none⟩)]] W (Ret (.tuple #[.agg (firstR o (srcP p si di) l).cells, .bool (l.any (srcP p si di))]) W) := fun W hW k0 => t_first W B o ip b v l (h.below hW) hl (srcP p si di) 56 _ (enters_of Tryd.func56 (by kernel_rfl) rfl) (fun W' r hr hb => t_Source1 W' p si sp di dp r _ _ (Cells.below hb k0) (hok r hr) hs hd)
  generalize firstR o (srcP p si di) l = r1 at *
  generalize l.any (srcP p si di) = q at *
  unfold Rule.cells at *
  have C1 := hide c1
  clear c1 h hl hok hs hd
  go_enter Tryd.func52, Tryd.ntmps52
  have d0 := Cells.new w #[.int .u8 p, .int .u32 si, .int .u16 sp, .int .u32 di, .int .u16 dp] 28
  replace d0 := Cells.below (fresh_below (w.alloc (.cells #[.int .u8 p, .int .u32 si, .int .u16 sp, .int .u32 di, .int .u16 dp] 28)) (.cells #[.int .i64 0, .int .u8 0, .int .u32 0, .int .i64 0, .int .u32 0, .int .i64 0, .int .u32 0, .int .u16 0, .int .u16 0, .int .u32 0, .int .u16 0] 77)) d0
  have d1 := Cells.new (w.alloc (.cells #[.int .u8 p, .int .u32 si, .int .u16 sp, .int .u32 di, .int .u16 dp] 28)) #[.int .i64 0, .int .u8 0, .int .u32 0, .int .i64 0, .int .u32 0, .int .i64 0, .int .u32 0, .int .u16 0, .int .u16 0, .int .u32 0, .int .u16 0] 77
  have l0 : Below w.heap.size w ((w.alloc (.cells #[.int .u8 p, .int .u32 si, .int .u16 sp, .int .u32 di, .int .u16 dp] 28)).alloc (.cells #[.int .i64 0, .int .u8 0, .int .u32 0, .int .i64 0, .int .u32 0, .int .i64 0, .int .u32 0, .int .u16 0, .int .u16 0, .int .u32 0, .int .u16 0] 77)) := (bstep (fresh_below _ _) (fresh_below _ _))
  simp only [World.size_alloc, Nat.add_assoc] at d1
  (try simp only [Nat.reduceAdd] at d1)
  have L0 := hide l0; have D0 := hide d0; have D1 := hide d1
  clear l0 d0 d1
  go_upto_region 1 with fail
  have l0 := L0.out; have d0 := D0.out; have d1 := D1.out
  clear L0 D0 D1
  generalize ((w.alloc (.cells #[.int .u8 p, .int .u32 si, .int .u16 sp, .int .u32 di, .int .u16 dp] 28)).alloc (.cells #[.int .i64 0, .int .u8 0, .int .u32 0, .int .i64 0, .int .u32 0, .int .i64 0, .int .u32 0, .int .u16 0, .int .u16 0, .int .u32 0, .int .u16 0] 77)) = w1 at *
  have qd1_0 : ∀ W', Below w1.heap.size w1 W' → World.cell? W' ⟨w.heap.size + 1, 0, none⟩ = some (.int .i64 0) := fun W' h => Cells.at_ (Cells.below h d1) 0
  have qd1_1 : ∀ W', Below w1.heap.size w1 W' → World.cell? W' ⟨w.heap.size + 1, 1, none⟩ = some (.int .u8 0) := fun W' h => Cells.at_ (Cells.below h d1) 1
  have qd1_2 : ∀ W', Below w1.heap.size w1 W' → World.cell? W' ⟨w.heap.size + 1, 2, none⟩ = some (.int .u32 0) := fun W' h => Cells.at_ (Cells.below h d1) 2
  have qd1_3 : ∀ W', Below w1.heap.size w1 W' → World.cell? W' ⟨w.heap.size + 1, 3, none⟩ = some (.int .i64 0) := fun W' h => Cells.at_ (Cells.below h d1) 3
  have qd1_4 : ∀ W', Below w1.heap.size w1 W' → World.cell? W' ⟨w.heap.size + 1, 4, none⟩ = some (.int .u32 0) := fun W' h => Cells.at_ (Cells.below h d1) 4
  have qd1_5 : ∀ W', Below w1.heap.size w1 W' → World.cell? W' ⟨w.heap.size + 1, 5, none⟩ = some (.int .i64 0) := fun W' h => Cells.at_ (Cells.below h d1) 5
  have qd1_6 : ∀ W', Below w1.heap.size w1 W' → World.cell? W' ⟨w.heap.size + 1, 6, none⟩ = some (.int .u32 0) := fun W' h => Cells.at_ (Cells.below h d1) 6
  have qd1_7 : ∀ W', Below w1.heap.size w1 W' → World.cell? W' ⟨w.heap.size + 1, 7, none⟩ = some (.int .u16 0) := fun W' h => Cells.at_ (Cells.below h d1) 7
  have qd1_8 : ∀ W', Below w1.heap.size w1 W' → World.cell? W' ⟨w.heap.size + 1, 8, none⟩ = some (.int .u16 0) := fun W' h => Cells.at_ (Cells.below h d1) 8
  have qd1_9 : ∀ W', Below w1.heap.size w1 W' → World.cell? W' ⟨w.heap.size + 1, 9, none⟩ = some (.int .u32 0) := fun W' h => Cells.at_ (Cells.below h d1) 9
  have qd1_10 : ∀ W', Below w1.heap.size w1 W' → World.cell? W' ⟨w.heap.size + 1, 10, none⟩ = some (.int .u16 0) := fun W' h => Cells.at_ (Cells.below h d1) 10
  have fz : ∀ W' i, Below w1.heap.size w1 W' → World.frozen? W' ⟨w.heap.size + 1, i, none⟩ = false := fun W' i h => Cells.free (Cells.below h d1) i
  have bb : Below w1.heap.size w1 w1 := Below.refl _ _
  have L0 := hide l0; have D0 := hide d0; have D1 := hide d1
  clear l0 d0 d1
  go_wp2_with ((go_at_call 48; (with_reducible refine (C1.out _ (bstep L0.out (by assumption)) (Cells.below (by assumption) D0.out)).mono ?_); rintro e2 w2 ⟨rfl, b2⟩; have b2' := bstep (by assumption : Below w1.heap.size w1 _) b2; clear b2))
  have d2 := Cells.below b2' D1.out; have l2 := bstep L0.out b2'
  clear b2' qd1_0 qd1_1 qd1_2 qd1_3 qd1_4 qd1_5 qd1_6 qd1_7 qd1_8 qd1_9 qd1_10 fz bb L0 D0 D1 C1
  have r5 := (Cells.put11 d2 (.int .i64 r1.k) (.int .u8 r1.p) (.int .u32 r1.sa) (.int .i64 r1.sb) (.int .u32 r1.da) (.int .i64 r1.db) (.int .u32 r1.e) (.int .u16 r1.f) (.int .u16 r1.t) (.int .u32 r1.ia) (.int .u16 r1.ip))
  have b5 := (Below.put11 l2 (b := w.heap.size + 1) (by first | exact Nat.le_refl _ | omega) (.int .i64 r1.k) (.int .u8 r1.p) (.int .u32 r1.sa) (.int .i64 r1.sb) (.int .u32 r1.da) (.int .i64 r1.db) (.int .u32 r1.e) (.int .u16 r1.f) (.int .u16 r1.t) (.int .u32 r1.ia) (.int .u16 r1.ip))
  have HR5 := hide r5; have HB5 := hide b5
  clear r5 b5 d2
  generalize (((((((((((w2.setCell ⟨w.heap.size + 1, 0, none⟩ (.int .i64 r1.k)).setCell ⟨w.heap.size + 1, 1, none⟩ (.int .u8 r1.p)).setCell ⟨w.heap.size + 1, 2, none⟩ (.int .u32 r1.sa)).setCell ⟨w.heap.size + 1, 3, none⟩ (.int .i64 r1.sb)).setCell ⟨w.heap.size + 1, 4, none⟩ (.int .u32 r1.da)).setCell ⟨w.heap.size + 1, 5, none⟩ (.int .i64 r1.db)).setCell ⟨w.heap.size + 1, 6, none⟩ (.int .u32 r1.e)).setCell ⟨w.heap.size + 1, 7, none⟩ (.int .u16 r1.f)).setCell ⟨w.heap.size + 1, 8, none⟩ (.int .u16 r1.t)).setCell ⟨w.heap.size + 1, 9, none⟩ (.int .u32 r1.ia)).setCell ⟨w.heap.size + 1, 10, none⟩ (.int .u16 r1.ip)) = W5 at *
  have r5 := HR5.out; have b5 := HB5.out
  clear HR5 HB5
  have xr5_0 : W5.cell? ⟨w.heap.size + 1, 0, none⟩ = some (.int .i64 r1.k) := r5.at_ 0
  have xr5_1 : W5.cell? ⟨w.heap.size + 1, 1, none⟩ = some (.int .u8 r1.p) := r5.at_ 1
  have xr5_2 : W5.cell? ⟨w.heap.size + 1, 2, none⟩ = some (.int .u32 r1.sa) := r5.at_ 2
  have xr5_3 : W5.cell? ⟨w.heap.size + 1, 3, none⟩ = some (.int .i64 r1.sb) := r5.at_ 3
  have xr5_4 : W5.cell? ⟨w.heap.size + 1, 4, none⟩ = some (.int .u32 r1.da) := r5.at_ 4
  have xr5_5 : W5.cell? ⟨w.heap.size + 1, 5, none⟩ = some (.int .i64 r1.db) := r5.at_ 5
  have xr5_6 : W5.cell? ⟨w.heap.size + 1, 6, none⟩ = some (.int .u32 r1.e) := r5.at_ 6
  have xr5_7 : W5.cell? ⟨w.heap.size + 1, 7, none⟩ = some (.int .u16 r1.f) := r5.at_ 7
  have xr5_8 : W5.cell? ⟨w.heap.size + 1, 8, none⟩ = some (.int .u16 r1.t) := r5.at_ 8
  have xr5_9 : W5.cell? ⟨w.heap.size + 1, 9, none⟩ = some (.int .u32 r1.ia) := r5.at_ 9
  have xr5_10 : W5.cell? ⟨w.heap.size + 1, 10, none⟩ = some (.int .u16 r1.ip) := r5.at_ 10
  (try simp only [Exit.inBlock, Exit.then]); refine bodyPost_ret (by simp [results, Tryd.results52, go_sem, *]; try rfl) rfl ?_
  exact ⟨rfl, b5⟩
end Go.Proofs.YtilfcikhipadpaaDoor
end

section
/- rules: Outer, Copy, New. -/
set_option linter.unusedVariables false
set_option linter.unusedSimpArgs false
namespace Go.Proofs.YtilfcikhipadpaaDoor
open Go.RowKit Go.Lib
attribute [local go_sem] Oper.semAt_some

def outR (o : Int) (l : List Rule) (a : Int) : Bool := decide (a = o) || l.any (ouP o a)

set_option maxHeartbeats 4000000 in
set_option maxRecDepth 100000 in
theorem t_Outer (w : World) (B : Nat) (o ip b : Int) (v : Value) (l : List Rule) (a : Int) (h : TS w B o ip b l v) (hl : l.length ≤ 1000) :
    Calls Tryd.prog 38 #[.pointer (some ⟨B, 0, none⟩), .int .u32 a] w (Ret (.bool (outR o l a)) w) := by
  have c0 : ∀ W, Below w.heap.size w W → Calls Tryd.prog 42 #[.pointer (some ⟨B, 0, none⟩)] W (Ret (.bool false) W) := fun W hW => t_none W B o ip b v (Tbl.below h.tbl hW)
  have c1 : ∀ W, Below w.heap.size w W → Cells W w.heap.size #[.pointer (some ⟨B, 0, none⟩)] 57 → Cells W (w.heap.size + 1) #[.int .u32 a] 23 → Calls Tryd.prog 31 #[v, .func (.func 50) #[] #[.pointer (some ⟨w.heap.size, 0, none⟩), .pointer (some ⟨w.heap.size + 1, 0, none⟩)]] W (Ret (.bool (l.any (ouP o a))) W) := fun W hW h1 h2 =>
    ContainsFuncRR (ouP o a) 50 _ (enters_of Tryd.func50 (by kernel_rfl) rfl) v l W (RR.below h.row hW) (fun W' x _ hb => (t_Outer1 W' B o ip b a v x _ _ _ _ (Tbl.below (Tbl.below h.tbl hW) hb) (Cells.below hb h1) (Cells.below hb h2)).mono fun e w2 k => ⟨k.1, bstep hb k.2⟩) (by omega)
  have hT := h.tbl
  obtain ⟨q, hq⟩ : ∃ q, q = outR o l a := ⟨_, rfl⟩
  rw [← hq]
  unfold outR at hq
  generalize l.any (ouP o a) = q1 at *
  obtain ⟨z, hz⟩ : ∃ z : Bool, (a == o) = z := ⟨_, rfl⟩
  have hz' : decide (a = o) = z := hz
  rw [hz'] at hq
  have C0 := hide c0; have C1 := hide c1; have HT := hide hT; have HQ := hide hq
  clear c0 c1 h hl hT hq hz'
  go_enter Tryd.func38, Tryd.ntmps38
  have d0 := Cells.new w #[.pointer (some ⟨B, 0, none⟩)] 57
  replace d0 := Cells.below (fresh_below (w.alloc (.cells #[.pointer (some ⟨B, 0, none⟩)] 57)) (.cells #[.int .u32 a] 23)) d0
  have d1 := Cells.new (w.alloc (.cells #[.pointer (some ⟨B, 0, none⟩)] 57)) #[.int .u32 a] 23
  have l0 : Below w.heap.size w ((w.alloc (.cells #[.pointer (some ⟨B, 0, none⟩)] 57)).alloc (.cells #[.int .u32 a] 23)) := bstep (fresh_below _ _) (fresh_below _ _)
  rw [World.size_alloc] at d1
  have L0 := hide l0; have D0 := hide d0; have D1 := hide d1
  clear l0 d0 d1
  go_upto_region 1 with fail
  have l0 := L0.out; have d0 := D0.out; have d1 := D1.out
  clear L0 D0 D1
  generalize ((w.alloc (.cells #[.pointer (some ⟨B, 0, none⟩)] 57)).alloc (.cells #[.int .u32 a] 23)) = w1 at *
  have hB := Cells.below l0 HT.out
  have qhB_0 : ∀ W', Below w1.heap.size w1 W' → World.cell? W' ⟨B, 0, none⟩ = some (.bool true) := fun W' h => Cells.at_ (Cells.below h hB) 0
  have qhB_1 : ∀ W', Below w1.heap.size w1 W' → World.cell? W' ⟨B, 1, none⟩ = some (.int .u32 o) := fun W' h => Cells.at_ (Cells.below h hB) 1
  have qhB_2 : ∀ W', Below w1.heap.size w1 W' → World.cell? W' ⟨B, 2, none⟩ = some (.int .u32 ip) := fun W' h => Cells.at_ (Cells.below h hB) 2
  have qhB_3 : ∀ W', Below w1.heap.size w1 W' → World.cell? W' ⟨B, 3, none⟩ = some (.int .i64 b) := fun W' h => Cells.at_ (Cells.below h hB) 3
  have qhB_4 : ∀ W', Below w1.heap.size w1 W' → World.cell? W' ⟨B, 4, none⟩ = some (v) := fun W' h => Cells.at_ (Cells.below h hB) 4
  have qd0_0 : ∀ W', Below w1.heap.size w1 W' → World.cell? W' ⟨w.heap.size, 0, none⟩ = some (.pointer (some ⟨B, 0, none⟩)) := fun W' h => Cells.at_ (Cells.below h d0) 0
  have qd1_0 : ∀ W', Below w1.heap.size w1 W' → World.cell? W' ⟨w.heap.size + 1, 0, none⟩ = some (.int .u32 a) := fun W' h => Cells.at_ (Cells.below h d1) 0
  have bb : Below w1.heap.size w1 w1 := Below.refl _ _
  have L0 := hide l0; have D0 := hide d0; have D1 := hide d1
  clear l0 d0 d1 hB
  go_wp2_with ((go_at_call 42; (with_reducible refine (C0.out _ (bstep L0.out (by assumption))).mono ?_); rintro e2 w2 ⟨rfl, b2⟩; have b2' := bstep (by assumption : Below w1.heap.size w1 _) b2; clear b2))
  cases z with
  | true =>
    refine wp_region_held_drew (S := fun W => Below w1.heap.size w1 W) (by kernel_rfl) (b2'.drew) (fun hS0 => ?_)
    refine wpAnyH_take (i := 0) (v := ?v0_1) rfl (by kernel_rfl) (by kernel_rfl) (by kernel_rfl) (fun _ _ _ h => h) (Or.inl (And.intro (by kernel_rfl) ?q0_1)) hS0 ?r0_1; (case q0_1 => (intro w hx; (try dsimp only); (try go_simp); (try with_reducible rfl)))
    (try simp only [Act.put, List.setIfInBounds_toArray, List.set_cons_zero, List.set_cons_succ, List.getElem_toArray, List.getElem_cons_succ, List.getElem_cons_zero])
    refine wpAnyH_take (i := 1) (v := ?v1_2) rfl (by kernel_rfl) (by kernel_rfl) (by kernel_rfl) (fun _ _ _ h => h) (Or.inl (And.intro (by kernel_rfl) ?q1_2)) hS0 ?r1_2; (case q1_2 => (intro w hx; (try dsimp only); (try go_simp); (try with_reducible rfl)))
    (try simp only [Act.put, List.setIfInBounds_toArray, List.set_cons_zero, List.set_cons_succ, List.getElem_toArray, List.getElem_cons_succ, List.getElem_cons_zero])
    refine wpAnyH_take (i := 2) (v := ?v2_3) rfl (by kernel_rfl) (by kernel_rfl) (by kernel_rfl) (fun _ _ _ h => h) (Or.inl (And.intro (by kernel_rfl) ?q2_3)) hS0 ?r2_3; (case q2_3 => (intro w hx; (try dsimp only); (try go_simp); (try with_reducible rfl)))
    (try simp only [Act.put, List.setIfInBounds_toArray, List.set_cons_zero, List.set_cons_succ, List.getElem_toArray, List.getElem_cons_succ, List.getElem_cons_zero])
    refine wpAnyH_take (i := 3) (v := ?v3_4) rfl (by kernel_rfl) (by kernel_rfl) (by kernel_rfl) (fun _ _ _ h => h) (Or.inl (And.intro (by kernel_rfl) ?q3_4)) hS0 ?r3_4; (case q3_4 => (intro w hx; (try dsimp only); (try go_simp); (try with_reducible rfl)))
    (try simp only [Act.put, List.setIfInBounds_toArray, List.set_cons_zero, List.set_cons_succ, List.getElem_toArray, List.getElem_cons_succ, List.getElem_cons_zero])
    refine wpAnyH_take (i := 4) (v := ?v4_5) rfl (by kernel_rfl) (by kernel_rfl) (by kernel_rfl) (fun _ _ _ h => h) (Or.inl (And.intro (by kernel_rfl) ?q4_5)) hS0 ?r4_5; (case q4_5 => (intro w hx; (try dsimp only); (try go_simp); (try with_reducible rfl)))
    (try simp only [Act.put, List.setIfInBounds_toArray, List.set_cons_zero, List.set_cons_succ, List.getElem_toArray, List.getElem_cons_succ, List.getElem_cons_zero])
    refine wpAnyH_take (i := 5) (v := ?v5_6) rfl (by kernel_rfl) (by kernel_rfl) (by kernel_rfl) (fun _ _ _ h => h) (Or.inl (And.intro (by kernel_rfl) ?q5_6)) hS0 ?r5_6; (case q5_6 => (intro w hx; (try dsimp only); (try go_simp); (try with_reducible rfl)))
    (try simp only [Act.put, List.setIfInBounds_toArray, List.set_cons_zero, List.set_cons_succ, List.getElem_toArray, List.getElem_cons_succ, List.getElem_cons_zero])
    refine wpAnyH_take (i := 6) (v := ?v6_7) rfl (by kernel_rfl) (by kernel_rfl) (by kernel_rfl) (fun _ _ _ h => h) (Or.inl (And.intro (by kernel_rfl) ?q6_7)) hS0 ?r6_7; (case q6_7 => (intro w hx; (try dsimp only); (try go_simp); (try with_reducible rfl)))
    (try simp only [Act.put, List.setIfInBounds_toArray, List.set_cons_zero, List.set_cons_succ, List.getElem_toArray, List.getElem_cons_succ, List.getElem_cons_zero])
    refine wpAnyH_take (i := 7) (v := undef) rfl (by kernel_rfl) (by kernel_rfl) (by kernel_rfl) (fun _ _ _ h => h) (Or.inr (And.intro (by kernel_rfl) rfl)) hS0 ?r7_8
    (try simp only [Act.put, List.setIfInBounds_toArray, List.set_cons_zero, List.set_cons_succ, List.getElem_toArray, List.getElem_cons_succ, List.getElem_cons_zero])
    refine wpAnyH_take (i := 8) (v := undef) rfl (by kernel_rfl) (by kernel_rfl) (by kernel_rfl) (fun _ _ _ h => h) (Or.inr (And.intro (by kernel_rfl) rfl)) hS0 ?r8_9
    (try simp only [Act.put, List.setIfInBounds_toArray, List.set_cons_zero, List.set_cons_succ, List.getElem_toArray, List.getElem_cons_succ, List.getElem_cons_zero])
    refine wpAnyH_take (i := 9) (v := undef) rfl (by kernel_rfl) (by kernel_rfl) (by kernel_rfl) (fun _ _ _ h => h) (Or.inr (And.intro (by kernel_rfl) rfl)) hS0 ?r9_10
    (try simp only [Act.put, List.setIfInBounds_toArray, List.set_cons_zero, List.set_cons_succ, List.getElem_toArray, List.getElem_cons_succ, List.getElem_cons_zero])
    refine wpAnyH_take (i := 10) (v := undef) rfl (by kernel_rfl) (by kernel_rfl) (by kernel_rfl) (fun _ _ _ h => h) (Or.inr (And.intro (by kernel_rfl) rfl)) hS0 ?r10_11
    (try simp only [Act.put, List.setIfInBounds_toArray, List.set_cons_zero, List.set_cons_succ, List.getElem_toArray, List.getElem_cons_succ, List.getElem_cons_zero])
    refine wpAnyH_take (i := 11) (v := undef) rfl (by kernel_rfl) (by kernel_rfl) (by kernel_rfl) (fun _ _ _ h => h) (Or.inr (And.intro (by kernel_rfl) rfl)) hS0 ?r11_12
    (try simp only [Act.put, List.setIfInBounds_toArray, List.set_cons_zero, List.set_cons_succ, List.getElem_toArray, List.getElem_cons_succ, List.getElem_cons_zero])
    refine wpAnyH_take (i := 12) (v := undef) rfl (by kernel_rfl) (by kernel_rfl) (by kernel_rfl) (fun _ _ _ h => h) (Or.inr (And.intro (by kernel_rfl) rfl)) hS0 ?r12_13
    (try simp only [Act.put, List.setIfInBounds_toArray, List.set_cons_zero, List.set_cons_succ, List.getElem_toArray, List.getElem_cons_succ, List.getElem_cons_zero])
    refine wpAnyH_take (i := 13) (v := ?v13_14) rfl (by kernel_rfl) (by kernel_rfl) (by kernel_rfl) (fun _ _ _ h => h) (Or.inl (And.intro (by kernel_rfl) ?q13_14)) hS0 ?r13_14; (case q13_14 => (intro w hx; (try dsimp only); (try go_simp); (try with_reducible rfl)))
    (try simp only [Act.put, List.setIfInBounds_toArray, List.set_cons_zero, List.set_cons_succ, List.getElem_toArray, List.getElem_cons_succ, List.getElem_cons_zero])
    refine wpAnyH_take (i := 14) (v := ?v14_15) rfl (by kernel_rfl) (by kernel_rfl) (by kernel_rfl) (fun _ _ _ h => h) (Or.inl (And.intro (by kernel_rfl) ?q14_15)) hS0 ?r14_15; (case q14_15 => (intro w hx; (try dsimp only); (try go_simp); (try with_reducible rfl)))
    (try simp only [Act.put, List.setIfInBounds_toArray, List.set_cons_zero, List.set_cons_succ, List.getElem_toArray, List.getElem_cons_succ, List.getElem_cons_zero])
    all_goals refine wpAnyH_done (by kernel_rfl) ?_ _
    go_wp2_with fail
    go_ret
    exact ⟨ret_bool (by rw [HQ.out]; rfl), bstep L0.out hS0⟩
  | false =>
    refine wp_region_held_drew (S := fun W => Below w1.heap.size w1 W) (by kernel_rfl) (b2'.drew) (fun hS0 => ?_)
    refine wpAnyH_take (i := 0) (v := ?v0_16) rfl (by kernel_rfl) (by kernel_rfl) (by kernel_rfl) (fun _ _ _ h => h) (Or.inl (And.intro (by kernel_rfl) ?q0_16)) hS0 ?r0_16; (case q0_16 => (intro w hx; (try dsimp only); (try go_simp); (try with_reducible rfl)))
    (try simp only [Act.put, List.setIfInBounds_toArray, List.set_cons_zero, List.set_cons_succ, List.getElem_toArray, List.getElem_cons_succ, List.getElem_cons_zero])
    refine wpAnyH_take (i := 1) (v := ?v1_17) rfl (by kernel_rfl) (by kernel_rfl) (by kernel_rfl) (fun _ _ _ h => h) (Or.inl (And.intro (by kernel_rfl) ?q1_17)) hS0 ?r1_17; (case q1_17 => (intro w hx; (try dsimp only); (try go_simp); (try with_reducible rfl)))
    (try simp only [Act.put, List.setIfInBounds_toArray, List.set_cons_zero, List.set_cons_succ, List.getElem_toArray, List.getElem_cons_succ, List.getElem_cons_zero])
    refine wpAnyH_take (i := 2) (v := ?v2_18) rfl (by kernel_rfl) (by kernel_rfl) (by kernel_rfl) (fun _ _ _ h => h) (Or.inl (And.intro (by kernel_rfl) ?q2_18)) hS0 ?r2_18; (case q2_18 => (intro w hx; (try dsimp only); (try go_simp); (try with_reducible rfl)))
    (try simp only [Act.put, List.setIfInBounds_toArray, List.set_cons_zero, List.set_cons_succ, List.getElem_toArray, List.getElem_cons_succ, List.getElem_cons_zero])
    refine wpAnyH_take (i := 3) (v := ?v3_19) rfl (by kernel_rfl) (by kernel_rfl) (by kernel_rfl) (fun _ _ _ h => h) (Or.inl (And.intro (by kernel_rfl) ?q3_19)) hS0 ?r3_19; (case q3_19 => (intro w hx; (try dsimp only); (try go_simp); (try with_reducible rfl)))
    (try simp only [Act.put, List.setIfInBounds_toArray, List.set_cons_zero, List.set_cons_succ, List.getElem_toArray, List.getElem_cons_succ, List.getElem_cons_zero])
    refine wpAnyH_take (i := 4) (v := ?v4_20) rfl (by kernel_rfl) (by kernel_rfl) (by kernel_rfl) (fun _ _ _ h => h) (Or.inl (And.intro (by kernel_rfl) ?q4_20)) hS0 ?r4_20; (case q4_20 => (intro w hx; (try dsimp only); (try go_simp); (try with_reducible rfl)))
    (try simp only [Act.put, List.setIfInBounds_toArray, List.set_cons_zero, List.set_cons_succ, List.getElem_toArray, List.getElem_cons_succ, List.getElem_cons_zero])
    refine wpAnyH_take (i := 5) (v := ?v5_21) rfl (by kernel_rfl) (by kernel_rfl) (by kernel_rfl) (fun _ _ _ h => h) (Or.inl (And.intro (by kernel_rfl) ?q5_21)) hS0 ?r5_21; (case q5_21 => (intro w hx; (try dsimp only); (try go_simp); (try with_reducible rfl)))
    (try simp only [Act.put, List.setIfInBounds_toArray, List.set_cons_zero, List.set_cons_succ, List.getElem_toArray, List.getElem_cons_succ, List.getElem_cons_zero])
    refine wpAnyH_take (i := 6) (v := ?v6_22) rfl (by kernel_rfl) (by kernel_rfl) (by kernel_rfl) (fun _ _ _ h => h) (Or.inl (And.intro (by kernel_rfl) ?q6_22)) hS0 ?r6_22; (case q6_22 => (intro w hx; (try dsimp only); (try go_simp); (try with_reducible rfl)))
    (try simp only [Act.put, List.setIfInBounds_toArray, List.set_cons_zero, List.set_cons_succ, List.getElem_toArray, List.getElem_cons_succ, List.getElem_cons_zero])
    refine wpAnyH_take (i := 7) (v := ?v7_23) rfl (by kernel_rfl) (by kernel_rfl) (by kernel_rfl) (fun _ _ _ h => h) (Or.inl (And.intro (by kernel_rfl) ?q7_23)) hS0 ?r7_23; (case q7_23 => (intro w hx; (try dsimp only); (try go_simp); (try with_reducible rfl)))
    (try simp only [Act.put, List.setIfInBounds_toArray, List.set_cons_zero, List.set_cons_succ, List.getElem_toArray, List.getElem_cons_succ, List.getElem_cons_zero])
    refine wpAnyH_take (i := 8) (v := ?v8_24) rfl (by kernel_rfl) (by kernel_rfl) (by kernel_rfl) (fun _ _ _ h => h) (Or.inl (And.intro (by kernel_rfl) ?q8_24)) hS0 ?r8_24; (case q8_24 => (intro w hx; (try dsimp only); (try go_simp); (try with_reducible rfl)))
    (try simp only [Act.put, List.setIfInBounds_toArray, List.set_cons_zero, List.set_cons_succ, List.getElem_toArray, List.getElem_cons_succ, List.getElem_cons_zero])
    refine wpAnyH_take (i := 9) (v := ?v9_25) rfl (by kernel_rfl) (by kernel_rfl) (by kernel_rfl) (fun _ _ _ h => h) (Or.inl (And.intro (by kernel_rfl) ?q9_25)) hS0 ?r9_25; (case q9_25 => (intro w hx; (try dsimp only); (try go_simp); (try with_reducible rfl)))
    (try simp only [Act.put, List.setIfInBounds_toArray, List.set_cons_zero, List.set_cons_succ, List.getElem_toArray, List.getElem_cons_succ, List.getElem_cons_zero])
    refine wpAnyH_take (i := 10) (v := ?v10_26) rfl (by kernel_rfl) (by kernel_rfl) (by kernel_rfl) (fun _ _ _ h => h) (Or.inl (And.intro (by kernel_rfl) ?q10_26)) hS0 ?r10_26; (case q10_26 => (intro w hx; (try dsimp only); (try go_simp); (try with_reducible rfl)))
    (try simp only [Act.put, List.setIfInBounds_toArray, List.set_cons_zero, List.set_cons_succ, List.getElem_toArray, List.getElem_cons_succ, List.getElem_cons_zero])
    refine wpAnyH_take (i := 11) (v := ?v11_27) rfl (by kernel_rfl) (by kernel_rfl) (by kernel_rfl) (fun _ _ _ h => h) (Or.inl (And.intro (by kernel_rfl) ?q11_27)) hS0 ?r11_27; (case q11_27 => (intro w hx; (try dsimp only); (try go_simp); (try with_reducible rfl)))
    (try simp only [Act.put, List.setIfInBounds_toArray, List.set_cons_zero, List.set_cons_succ, List.getElem_toArray, List.getElem_cons_succ, List.getElem_cons_zero])
    all_goals refine wpAnyH_ready (rs := [12]) (by kernel_rfl) (by simp) ?_
    all_goals refine AllReadyH.cons rfl (fun K hK => ?_) AllReadyH.nil
    all_goals (rw [if_pos (by kernel_rfl)]; (try simp only [List.getElem_toArray, List.getElem_cons_succ, List.getElem_cons_zero]); go_simp; (refine (C1.out _ (bstep L0.out hS0) (Cells.below hS0 D0.out) (Cells.below hS0 D1.out)).mono ?_; rintro e wq ⟨rfl, bq⟩); (try go_wp2_with fail); refine hK.out _ _ (by (first | with_reducible exact hS0 | exact bstep hS0 bq)) (fun hS0 => ?_); clear hK K; (try simp only [Act.put, List.setIfInBounds_toArray, List.set_cons_zero, List.set_cons_succ, List.getElem_toArray, List.getElem_cons_succ, List.getElem_cons_zero]))
    all_goals refine wpAnyH_ready (rs := [13]) (by kernel_rfl) (by simp) ?_
    all_goals refine AllReadyH.cons rfl (fun K hK => ?_) AllReadyH.nil
    all_goals (rw [if_pos (by kernel_rfl)]; (try simp only [List.getElem_toArray, List.getElem_cons_succ, List.getElem_cons_zero]); go_simp; refine hK.out _ _ (by (first | with_reducible exact hS0 | exact bstep hS0 bq)) (fun hS0 => ?_); clear hK K; (try simp only [Act.put, List.setIfInBounds_toArray, List.set_cons_zero, List.set_cons_succ, List.getElem_toArray, List.getElem_cons_succ, List.getElem_cons_zero]))
    all_goals refine wpAnyH_ready (rs := [14]) (by kernel_rfl) (by simp) ?_
    all_goals refine AllReadyH.cons rfl (fun K hK => ?_) AllReadyH.nil
    all_goals (rw [if_pos (by kernel_rfl)]; (try simp only [List.getElem_toArray, List.getElem_cons_succ, List.getElem_cons_zero]); go_simp; refine hK.out _ _ (by (first | with_reducible exact hS0 | exact bstep hS0 bq)) (fun hS0 => ?_); clear hK K; (try simp only [Act.put, List.setIfInBounds_toArray, List.set_cons_zero, List.set_cons_succ, List.getElem_toArray, List.getElem_cons_succ, List.getElem_cons_zero]))
    all_goals refine wpAnyH_done (by kernel_rfl) ?_ _
    go_wp2_with fail
    go_ret
    exact ⟨ret_bool (by rw [HQ.out]; rfl), bstep L0.out hS0⟩
end Go.Proofs.YtilfcikhipadpaaDoor
end
