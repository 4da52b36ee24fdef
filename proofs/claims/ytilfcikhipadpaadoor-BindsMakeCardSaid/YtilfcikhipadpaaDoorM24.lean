/- Several texts of this claim, one behind the other. -/
import Derived.Test.YtilfcikhipadpaaDoorM22
import Derived.Test.YtilfcikhipadpaaDoorM23
import Derived.Test.YtilfcikhipadpaaDoorM17

section
/- binds.Make: as a whole. -/
set_option linter.unusedVariables false
set_option linter.unusedSimpArgs false
namespace Go.Proofs.YtilfcikhipadpaaDoor
open Go.RowKit Go.Lib
attribute [local go_sem] Oper.semAt_some envL lookV

set_option maxHeartbeats 4000000 in
set_option maxRecDepth 100000 in
theorem b_Make_no (w : World) (q : Pln) (A Ao : Option Addr) (n c no co : Nat) (os : List Pt) (now : Int) (hn : n = q.ws.length) (hno : no = os.length) (hn6 : n ≤ 1000) (hno6 : no ≤ 1000) (hb : -9223372036854775808 ≤ now ∧ now ≤ 9223372036854775807) (h : no ≠ n ∨ now < 0 ∨ 1099511627776 < now) :
    Calls Tryd.prog 8 #[.agg #[.int .u8 q.x.p, .int .u32 q.x.si, .int .u16 q.x.sp, .int .u32 q.x.di, .int .u16 q.x.dp, .int .u32 q.di, .int .u16 q.dp, .bool q.src, .int .i64 q.st, .slice A n c], .slice Ao no co, .int .i64 now] w (Made holdK w (makeV q os now)) := by
  have hmk : makeV q os now = (zeroE, 2) := by
    unfold makeV
    rw [if_pos (by omega)]
  rw [hmk]
  clear hmk hn hno
  have hq : (¬ (no : Int) = (n : Int)) ∨ ((no : Int) = (n : Int) ∧ now < 0) ∨ ((no : Int) = (n : Int) ∧ ¬ now < 0 ∧ 1099511627776 < now) := by omega
  clear h
  rcases hq with h1 | ⟨h1, h2⟩ | ⟨h1, h2, h3⟩
  · have e1 : ((no : Int) != (n : Int)) = true := by simpa using h1
    clear h1 hb hn6 hno6
    go_enter Tryd.func8, Tryd.ntmps8
    have d0 := Cells.new w #[.int .u8 q.x.p, .int .u32 q.x.si, .int .u16 q.x.sp, .int .u32 q.x.di, .int .u16 q.x.dp, .int .u32 q.di, .int .u16 q.dp, .bool q.src, .int .i64 q.st, .slice A n c] 31
    replace d0 := Cells.below (fresh_below (w.alloc (.cells #[.int .u8 q.x.p, .int .u32 q.x.si, .int .u16 q.x.sp, .int .u32 q.x.di, .int .u16 q.x.dp, .int .u32 q.di, .int .u16 q.dp, .bool q.src, .int .i64 q.st, .slice A n c] 31)) (.cells #[.int .u8 0, .int .u32 0, .int .u16 0, .int .u32 0, .int .u16 0, .int .u8 0, .int .u32 0, .int .u16 0, .int .u32 0, .int .u16 0, .int .i64 0, .int .i64 0, .slice none 0 0] 45)) d0
    have d1 := Cells.new (w.alloc (.cells #[.int .u8 q.x.p, .int .u32 q.x.si, .int .u16 q.x.sp, .int .u32 q.x.di, .int .u16 q.x.dp, .int .u32 q.di, .int .u16 q.dp, .bool q.src, .int .i64 q.st, .slice A n c] 31)) #[.int .u8 0, .int .u32 0, .int .u16 0, .int .u32 0, .int .u16 0, .int .u8 0, .int .u32 0, .int .u16 0, .int .u32 0, .int .u16 0, .int .i64 0, .int .i64 0, .slice none 0 0] 45
    have l0 : Below w.heap.size w ((w.alloc (.cells #[.int .u8 q.x.p, .int .u32 q.x.si, .int .u16 q.x.sp, .int .u32 q.x.di, .int .u16 q.x.dp, .int .u32 q.di, .int .u16 q.dp, .bool q.src, .int .i64 q.st, .slice A n c] 31)).alloc (.cells #[.int .u8 0, .int .u32 0, .int .u16 0, .int .u32 0, .int .u16 0, .int .u8 0, .int .u32 0, .int .u16 0, .int .u32 0, .int .u16 0, .int .i64 0, .int .i64 0, .slice none 0 0] 45)) := (bstep (fresh_below _ _) (fresh_below _ _))
    simp only [World.size_alloc] at d1
    have L0 := hide l0; have D0 := hide d0; have D1 := hide d1
    clear l0 d0 d1
    go_upto_region 1 with fail
    have l0 := L0.out; have d0 := D0.out; have d1 := D1.out
    clear L0 D0 D1
    generalize ((w.alloc (.cells #[.int .u8 q.x.p, .int .u32 q.x.si, .int .u16 q.x.sp, .int .u32 q.x.di, .int .u16 q.x.dp, .int .u32 q.di, .int .u16 q.dp, .bool q.src, .int .i64 q.st, .slice A n c] 31)).alloc (.cells #[.int .u8 0, .int .u32 0, .int .u16 0, .int .u32 0, .int .u16 0, .int .u8 0, .int .u32 0, .int .u16 0, .int .u32 0, .int .u16 0, .int .i64 0, .int .i64 0, .slice none 0 0] 45)) = w1 at *
    have qd0_0 : ∀ W', Below w1.heap.size w1 W' → World.cell? W' ⟨w.heap.size, 0, none⟩ = some (.int .u8 q.x.p) := fun W' h => Cells.at_ (Cells.below h d0) 0
    have qd0_1 : ∀ W', Below w1.heap.size w1 W' → World.cell? W' ⟨w.heap.size, 1, none⟩ = some (.int .u32 q.x.si) := fun W' h => Cells.at_ (Cells.below h d0) 1
    have qd0_2 : ∀ W', Below w1.heap.size w1 W' → World.cell? W' ⟨w.heap.size, 2, none⟩ = some (.int .u16 q.x.sp) := fun W' h => Cells.at_ (Cells.below h d0) 2
    have qd0_3 : ∀ W', Below w1.heap.size w1 W' → World.cell? W' ⟨w.heap.size, 3, none⟩ = some (.int .u32 q.x.di) := fun W' h => Cells.at_ (Cells.below h d0) 3
    have qd0_4 : ∀ W', Below w1.heap.size w1 W' → World.cell? W' ⟨w.heap.size, 4, none⟩ = some (.int .u16 q.x.dp) := fun W' h => Cells.at_ (Cells.below h d0) 4
    have qd0_5 : ∀ W', Below w1.heap.size w1 W' → World.cell? W' ⟨w.heap.size, 5, none⟩ = some (.int .u32 q.di) := fun W' h => Cells.at_ (Cells.below h d0) 5
    have qd0_6 : ∀ W', Below w1.heap.size w1 W' → World.cell? W' ⟨w.heap.size, 6, none⟩ = some (.int .u16 q.dp) := fun W' h => Cells.at_ (Cells.below h d0) 6
    have qd0_7 : ∀ W', Below w1.heap.size w1 W' → World.cell? W' ⟨w.heap.size, 7, none⟩ = some (.bool q.src) := fun W' h => Cells.at_ (Cells.below h d0) 7
    have qd0_8 : ∀ W', Below w1.heap.size w1 W' → World.cell? W' ⟨w.heap.size, 8, none⟩ = some (.int .i64 q.st) := fun W' h => Cells.at_ (Cells.below h d0) 8
    have qd0_9 : ∀ W', Below w1.heap.size w1 W' → World.cell? W' ⟨w.heap.size, 9, none⟩ = some (.slice A n c) := fun W' h => Cells.at_ (Cells.below h d0) 9
    have qd1_0 : ∀ W', Below w1.heap.size w1 W' → World.cell? W' ⟨w.heap.size + 1, 0, none⟩ = some (.int .u8 0) := fun W' h => Cells.at_ (Cells.below h d1) 0
    have qd1_1 : ∀ W', Below w1.heap.size w1 W' → World.cell? W' ⟨w.heap.size + 1, 1, none⟩ = some (.int .u32 0) := fun W' h => Cells.at_ (Cells.below h d1) 1
    have qd1_2 : ∀ W', Below w1.heap.size w1 W' → World.cell? W' ⟨w.heap.size + 1, 2, none⟩ = some (.int .u16 0) := fun W' h => Cells.at_ (Cells.below h d1) 2
    have qd1_3 : ∀ W', Below w1.heap.size w1 W' → World.cell? W' ⟨w.heap.size + 1, 3, none⟩ = some (.int .u32 0) := fun W' h => Cells.at_ (Cells.below h d1) 3
    have qd1_4 : ∀ W', Below w1.heap.size w1 W' → World.cell? W' ⟨w.heap.size + 1, 4, none⟩ = some (.int .u16 0) := fun W' h => Cells.at_ (Cells.below h d1) 4
    have qd1_5 : ∀ W', Below w1.heap.size w1 W' → World.cell? W' ⟨w.heap.size + 1, 5, none⟩ = some (.int .u8 0) := fun W' h => Cells.at_ (Cells.below h d1) 5
    have qd1_6 : ∀ W', Below w1.heap.size w1 W' → World.cell? W' ⟨w.heap.size + 1, 6, none⟩ = some (.int .u32 0) := fun W' h => Cells.at_ (Cells.below h d1) 6
    have qd1_7 : ∀ W', Below w1.heap.size w1 W' → World.cell? W' ⟨w.heap.size + 1, 7, none⟩ = some (.int .u16 0) := fun W' h => Cells.at_ (Cells.below h d1) 7
    have qd1_8 : ∀ W', Below w1.heap.size w1 W' → World.cell? W' ⟨w.heap.size + 1, 8, none⟩ = some (.int .u32 0) := fun W' h => Cells.at_ (Cells.below h d1) 8
    have qd1_9 : ∀ W', Below w1.heap.size w1 W' → World.cell? W' ⟨w.heap.size + 1, 9, none⟩ = some (.int .u16 0) := fun W' h => Cells.at_ (Cells.below h d1) 9
    have qd1_10 : ∀ W', Below w1.heap.size w1 W' → World.cell? W' ⟨w.heap.size + 1, 10, none⟩ = some (.int .i64 0) := fun W' h => Cells.at_ (Cells.below h d1) 10
    have qd1_11 : ∀ W', Below w1.heap.size w1 W' → World.cell? W' ⟨w.heap.size + 1, 11, none⟩ = some (.int .i64 0) := fun W' h => Cells.at_ (Cells.below h d1) 11
    have qd1_12 : ∀ W', Below w1.heap.size w1 W' → World.cell? W' ⟨w.heap.size + 1, 12, none⟩ = some (.slice none 0 0) := fun W' h => Cells.at_ (Cells.below h d1) 12
    have bb : Below w1.heap.size w1 w1 := Below.refl _ _
    have L0 := hide l0; have D0 := hide d0; have D1 := hide d1
    clear l0 d0 d1
    have HZ := D1; have LW := L0
    go_upto_region 2 with fail
    refine wp_region_lit ?_
    refine wpList_plain rfl fun K hK => ?_; go_simp; refine hK _ _ ?_; clear hK K
    refine wpList_store_all rfl 45 (.tmp 6) (.tmp 27) rfl HZ.out (by rfl) (by rfl) (by kernel_rfl) rfl (by simp [Value.oneCell']) ?_
    intro W5 r5 o5 z5
    go_wp2_with fail
    (try simp only [Exit.inBlock, Exit.then])
    refine bodyPost_ret (res_cell_tmp Tryd.results8 r5 (by rfl) (by rfl) _ Tryd.underlying45 rfl (by kernel_rfl)) rfl ?_
    exact ⟨.slice none 0 0, rfl, RowK.Own.nil _, (fun g e => by cases e), LW.out.trans (o5.below (fun j e => by omega) LW.out.size)⟩
  · have e1 : ((no : Int) != (n : Int)) = false := by simpa using h1
    clear h1 hb hn6 hno6
    go_enter Tryd.func8, Tryd.ntmps8
    have d0 := Cells.new w #[.int .u8 q.x.p, .int .u32 q.x.si, .int .u16 q.x.sp, .int .u32 q.x.di, .int .u16 q.x.dp, .int .u32 q.di, .int .u16 q.dp, .bool q.src, .int .i64 q.st, .slice A n c] 31
    replace d0 := Cells.below (fresh_below (w.alloc (.cells #[.int .u8 q.x.p, .int .u32 q.x.si, .int .u16 q.x.sp, .int .u32 q.x.di, .int .u16 q.x.dp, .int .u32 q.di, .int .u16 q.dp, .bool q.src, .int .i64 q.st, .slice A n c] 31)) (.cells #[.int .u8 0, .int .u32 0, .int .u16 0, .int .u32 0, .int .u16 0, .int .u8 0, .int .u32 0, .int .u16 0, .int .u32 0, .int .u16 0, .int .i64 0, .int .i64 0, .slice none 0 0] 45)) d0
    have d1 := Cells.new (w.alloc (.cells #[.int .u8 q.x.p, .int .u32 q.x.si, .int .u16 q.x.sp, .int .u32 q.x.di, .int .u16 q.x.dp, .int .u32 q.di, .int .u16 q.dp, .bool q.src, .int .i64 q.st, .slice A n c] 31)) #[.int .u8 0, .int .u32 0, .int .u16 0, .int .u32 0, .int .u16 0, .int .u8 0, .int .u32 0, .int .u16 0, .int .u32 0, .int .u16 0, .int .i64 0, .int .i64 0, .slice none 0 0] 45
    have l0 : Below w.heap.size w ((w.alloc (.cells #[.int .u8 q.x.p, .int .u32 q.x.si, .int .u16 q.x.sp, .int .u32 q.x.di, .int .u16 q.x.dp, .int .u32 q.di, .int .u16 q.dp, .bool q.src, .int .i64 q.st, .slice A n c] 31)).alloc (.cells #[.int .u8 0, .int .u32 0, .int .u16 0, .int .u32 0, .int .u16 0, .int .u8 0, .int .u32 0, .int .u16 0, .int .u32 0, .int .u16 0, .int .i64 0, .int .i64 0, .slice none 0 0] 45)) := (bstep (fresh_below _ _) (fresh_below _ _))
    simp only [World.size_alloc] at d1
    have L0 := hide l0; have D0 := hide d0; have D1 := hide d1
    clear l0 d0 d1
    go_upto_region 1 with fail
    have l0 := L0.out; have d0 := D0.out; have d1 := D1.out
    clear L0 D0 D1
    generalize ((w.alloc (.cells #[.int .u8 q.x.p, .int .u32 q.x.si, .int .u16 q.x.sp, .int .u32 q.x.di, .int .u16 q.x.dp, .int .u32 q.di, .int .u16 q.dp, .bool q.src, .int .i64 q.st, .slice A n c] 31)).alloc (.cells #[.int .u8 0, .int .u32 0, .int .u16 0, .int .u32 0, .int .u16 0, .int .u8 0, .int .u32 0, .int .u16 0, .int .u32 0, .int .u16 0, .int .i64 0, .int .i64 0, .slice none 0 0] 45)) = w1 at *
    have qd0_0 : ∀ W', Below w1.heap.size w1 W' → World.cell? W' ⟨w.heap.size, 0, none⟩ = some (.int .u8 q.x.p) := fun W' h => Cells.at_ (Cells.below h d0) 0
    have qd0_1 : ∀ W', Below w1.heap.size w1 W' → World.cell? W' ⟨w.heap.size, 1, none⟩ = some (.int .u32 q.x.si) := fun W' h => Cells.at_ (Cells.below h d0) 1
    have qd0_2 : ∀ W', Below w1.heap.size w1 W' → World.cell? W' ⟨w.heap.size, 2, none⟩ = some (.int .u16 q.x.sp) := fun W' h => Cells.at_ (Cells.below h d0) 2
    have qd0_3 : ∀ W', Below w1.heap.size w1 W' → World.cell? W' ⟨w.heap.size, 3, none⟩ = some (.int .u32 q.x.di) := fun W' h => Cells.at_ (Cells.below h d0) 3
    have qd0_4 : ∀ W', Below w1.heap.size w1 W' → World.cell? W' ⟨w.heap.size, 4, none⟩ = some (.int .u16 q.x.dp) := fun W' h => Cells.at_ (Cells.below h d0) 4
    have qd0_5 : ∀ W', Below w1.heap.size w1 W' → World.cell? W' ⟨w.heap.size, 5, none⟩ = some (.int .u32 q.di) := fun W' h => Cells.at_ (Cells.below h d0) 5
    have qd0_6 : ∀ W', Below w1.heap.size w1 W' → World.cell? W' ⟨w.heap.size, 6, none⟩ = some (.int .u16 q.dp) := fun W' h => Cells.at_ (Cells.below h d0) 6
    have qd0_7 : ∀ W', Below w1.heap.size w1 W' → World.cell? W' ⟨w.heap.size, 7, none⟩ = some (.bool q.src) := fun W' h => Cells.at_ (Cells.below h d0) 7
    have qd0_8 : ∀ W', Below w1.heap.size w1 W' → World.cell? W' ⟨w.heap.size, 8, none⟩ = some (.int .i64 q.st) := fun W' h => Cells.at_ (Cells.below h d0) 8
    have qd0_9 : ∀ W', Below w1.heap.size w1 W' → World.cell? W' ⟨w.heap.size, 9, none⟩ = some (.slice A n c) := fun W' h => Cells.at_ (Cells.below h d0) 9
    have qd1_0 : ∀ W', Below w1.heap.size w1 W' → World.cell? W' ⟨w.heap.size + 1, 0, none⟩ = some (.int .u8 0) := fun W' h => Cells.at_ (Cells.below h d1) 0
    have qd1_1 : ∀ W', Below w1.heap.size w1 W' → World.cell? W' ⟨w.heap.size + 1, 1, none⟩ = some (.int .u32 0) := fun W' h => Cells.at_ (Cells.below h d1) 1
    have qd1_2 : ∀ W', Below w1.heap.size w1 W' → World.cell? W' ⟨w.heap.size + 1, 2, none⟩ = some (.int .u16 0) := fun W' h => Cells.at_ (Cells.below h d1) 2
    have qd1_3 : ∀ W', Below w1.heap.size w1 W' → World.cell? W' ⟨w.heap.size + 1, 3, none⟩ = some (.int .u32 0) := fun W' h => Cells.at_ (Cells.below h d1) 3
    have qd1_4 : ∀ W', Below w1.heap.size w1 W' → World.cell? W' ⟨w.heap.size + 1, 4, none⟩ = some (.int .u16 0) := fun W' h => Cells.at_ (Cells.below h d1) 4
    have qd1_5 : ∀ W', Below w1.heap.size w1 W' → World.cell? W' ⟨w.heap.size + 1, 5, none⟩ = some (.int .u8 0) := fun W' h => Cells.at_ (Cells.below h d1) 5
    have qd1_6 : ∀ W', Below w1.heap.size w1 W' → World.cell? W' ⟨w.heap.size + 1, 6, none⟩ = some (.int .u32 0) := fun W' h => Cells.at_ (Cells.below h d1) 6
    have qd1_7 : ∀ W', Below w1.heap.size w1 W' → World.cell? W' ⟨w.heap.size + 1, 7, none⟩ = some (.int .u16 0) := fun W' h => Cells.at_ (Cells.below h d1) 7
    have qd1_8 : ∀ W', Below w1.heap.size w1 W' → World.cell? W' ⟨w.heap.size + 1, 8, none⟩ = some (.int .u32 0) := fun W' h => Cells.at_ (Cells.below h d1) 8
    have qd1_9 : ∀ W', Below w1.heap.size w1 W' → World.cell? W' ⟨w.heap.size + 1, 9, none⟩ = some (.int .u16 0) := fun W' h => Cells.at_ (Cells.below h d1) 9
    have qd1_10 : ∀ W', Below w1.heap.size w1 W' → World.cell? W' ⟨w.heap.size + 1, 10, none⟩ = some (.int .i64 0) := fun W' h => Cells.at_ (Cells.below h d1) 10
    have qd1_11 : ∀ W', Below w1.heap.size w1 W' → World.cell? W' ⟨w.heap.size + 1, 11, none⟩ = some (.int .i64 0) := fun W' h => Cells.at_ (Cells.below h d1) 11
    have qd1_12 : ∀ W', Below w1.heap.size w1 W' → World.cell? W' ⟨w.heap.size + 1, 12, none⟩ = some (.slice none 0 0) := fun W' h => Cells.at_ (Cells.below h d1) 12
    have bb : Below w1.heap.size w1 w1 := Below.refl _ _
    have L0 := hide l0; have D0 := hide d0; have D1 := hide d1
    clear l0 d0 d1
    have HZ := D1; have LW := L0
    go_upto_region 2 with fail
    refine wp_region_lit ?_
    refine wpList_plain rfl fun K hK => ?_; go_simp; refine hK _ _ ?_; clear hK K
    refine wpList_store_all rfl 45 (.tmp 6) (.tmp 27) rfl HZ.out (by rfl) (by rfl) (by kernel_rfl) rfl (by simp [Value.oneCell']) ?_
    intro W5 r5 o5 z5
    go_wp2_with fail
    (try simp only [Exit.inBlock, Exit.then])
    refine bodyPost_ret (res_cell_tmp Tryd.results8 r5 (by rfl) (by rfl) _ Tryd.underlying45 rfl (by kernel_rfl)) rfl ?_
    exact ⟨.slice none 0 0, rfl, RowK.Own.nil _, (fun g e => by cases e), LW.out.trans (o5.below (fun j e => by omega) LW.out.size)⟩
  · have e1 : ((no : Int) != (n : Int)) = false := by simpa using h1
    clear h1 hb hn6 hno6
    go_enter Tryd.func8, Tryd.ntmps8
    have d0 := Cells.new w #[.int .u8 q.x.p, .int .u32 q.x.si, .int .u16 q.x.sp, .int .u32 q.x.di, .int .u16 q.x.dp, .int .u32 q.di, .int .u16 q.dp, .bool q.src, .int .i64 q.st, .slice A n c] 31
    replace d0 := Cells.below (fresh_below (w.alloc (.cells #[.int .u8 q.x.p, .int .u32 q.x.si, .int .u16 q.x.sp, .int .u32 q.x.di, .int .u16 q.x.dp, .int .u32 q.di, .int .u16 q.dp, .bool q.src, .int .i64 q.st, .slice A n c] 31)) (.cells #[.int .u8 0, .int .u32 0, .int .u16 0, .int .u32 0, .int .u16 0, .int .u8 0, .int .u32 0, .int .u16 0, .int .u32 0, .int .u16 0, .int .i64 0, .int .i64 0, .slice none 0 0] 45)) d0
    have d1 := Cells.new (w.alloc (.cells #[.int .u8 q.x.p, .int .u32 q.x.si, .int .u16 q.x.sp, .int .u32 q.x.di, .int .u16 q.x.dp, .int .u32 q.di, .int .u16 q.dp, .bool q.src, .int .i64 q.st, .slice A n c] 31)) #[.int .u8 0, .int .u32 0, .int .u16 0, .int .u32 0, .int .u16 0, .int .u8 0, .int .u32 0, .int .u16 0, .int .u32 0, .int .u16 0, .int .i64 0, .int .i64 0, .slice none 0 0] 45
    have l0 : Below w.heap.size w ((w.alloc (.cells #[.int .u8 q.x.p, .int .u32 q.x.si, .int .u16 q.x.sp, .int .u32 q.x.di, .int .u16 q.x.dp, .int .u32 q.di, .int .u16 q.dp, .bool q.src, .int .i64 q.st, .slice A n c] 31)).alloc (.cells #[.int .u8 0, .int .u32 0, .int .u16 0, .int .u32 0, .int .u16 0, .int .u8 0, .int .u32 0, .int .u16 0, .int .u32 0, .int .u16 0, .int .i64 0, .int .i64 0, .slice none 0 0] 45)) := (bstep (fresh_below _ _) (fresh_below _ _))
    simp only [World.size_alloc] at d1
    have L0 := hide l0; have D0 := hide d0; have D1 := hide d1
    clear l0 d0 d1
    go_upto_region 1 with fail
    have l0 := L0.out; have d0 := D0.out; have d1 := D1.out
    clear L0 D0 D1
    generalize ((w.alloc (.cells #[.int .u8 q.x.p, .int .u32 q.x.si, .int .u16 q.x.sp, .int .u32 q.x.di, .int .u16 q.x.dp, .int .u32 q.di, .int .u16 q.dp, .bool q.src, .int .i64 q.st, .slice A n c] 31)).alloc (.cells #[.int .u8 0, .int .u32 0, .int .u16 0, .int .u32 0, .int .u16 0, .int .u8 0, .int .u32 0, .int .u16 0, .int .u32 0, .int .u16 0, .int .i64 0, .int .i64 0, .slice none 0 0] 45)) = w1 at *
    have qd0_0 : ∀ W', Below w1.heap.size w1 W' → World.cell? W' ⟨w.heap.size, 0, none⟩ = some (.int .u8 q.x.p) := fun W' h => Cells.at_ (Cells.below h d0) 0
    have qd0_1 : ∀ W', Below w1.heap.size w1 W' → World.cell? W' ⟨w.heap.size, 1, none⟩ = some (.int .u32 q.x.si) := fun W' h => Cells.at_ (Cells.below h d0) 1
    have qd0_2 : ∀ W', Below w1.heap.size w1 W' → World.cell? W' ⟨w.heap.size, 2, none⟩ = some (.int .u16 q.x.sp) := fun W' h => Cells.at_ (Cells.below h d0) 2
    have qd0_3 : ∀ W', Below w1.heap.size w1 W' → World.cell? W' ⟨w.heap.size, 3, none⟩ = some (.int .u32 q.x.di) := fun W' h => Cells.at_ (Cells.below h d0) 3
    have qd0_4 : ∀ W', Below w1.heap.size w1 W' → World.cell? W' ⟨w.heap.size, 4, none⟩ = some (.int .u16 q.x.dp) := fun W' h => Cells.at_ (Cells.below h d0) 4
    have qd0_5 : ∀ W', Below w1.heap.size w1 W' → World.cell? W' ⟨w.heap.size, 5, none⟩ = some (.int .u32 q.di) := fun W' h => Cells.at_ (Cells.below h d0) 5
    have qd0_6 : ∀ W', Below w1.heap.size w1 W' → World.cell? W' ⟨w.heap.size, 6, none⟩ = some (.int .u16 q.dp) := fun W' h => Cells.at_ (Cells.below h d0) 6
    have qd0_7 : ∀ W', Below w1.heap.size w1 W' → World.cell? W' ⟨w.heap.size, 7, none⟩ = some (.bool q.src) := fun W' h => Cells.at_ (Cells.below h d0) 7
    have qd0_8 : ∀ W', Below w1.heap.size w1 W' → World.cell? W' ⟨w.heap.size, 8, none⟩ = some (.int .i64 q.st) := fun W' h => Cells.at_ (Cells.below h d0) 8
    have qd0_9 : ∀ W', Below w1.heap.size w1 W' → World.cell? W' ⟨w.heap.size, 9, none⟩ = some (.slice A n c) := fun W' h => Cells.at_ (Cells.below h d0) 9
    have qd1_0 : ∀ W', Below w1.heap.size w1 W' → World.cell? W' ⟨w.heap.size + 1, 0, none⟩ = some (.int .u8 0) := fun W' h => Cells.at_ (Cells.below h d1) 0
    have qd1_1 : ∀ W', Below w1.heap.size w1 W' → World.cell? W' ⟨w.heap.size + 1, 1, none⟩ = some (.int .u32 0) := fun W' h => Cells.at_ (Cells.below h d1) 1
    have qd1_2 : ∀ W', Below w1.heap.size w1 W' → World.cell? W' ⟨w.heap.size + 1, 2, none⟩ = some (.int .u16 0) := fun W' h => Cells.at_ (Cells.below h d1) 2
    have qd1_3 : ∀ W', Below w1.heap.size w1 W' → World.cell? W' ⟨w.heap.size + 1, 3, none⟩ = some (.int .u32 0) := fun W' h => Cells.at_ (Cells.below h d1) 3
    have qd1_4 : ∀ W', Below w1.heap.size w1 W' → World.cell? W' ⟨w.heap.size + 1, 4, none⟩ = some (.int .u16 0) := fun W' h => Cells.at_ (Cells.below h d1) 4
    have qd1_5 : ∀ W', Below w1.heap.size w1 W' → World.cell? W' ⟨w.heap.size + 1, 5, none⟩ = some (.int .u8 0) := fun W' h => Cells.at_ (Cells.below h d1) 5
    have qd1_6 : ∀ W', Below w1.heap.size w1 W' → World.cell? W' ⟨w.heap.size + 1, 6, none⟩ = some (.int .u32 0) := fun W' h => Cells.at_ (Cells.below h d1) 6
    have qd1_7 : ∀ W', Below w1.heap.size w1 W' → World.cell? W' ⟨w.heap.size + 1, 7, none⟩ = some (.int .u16 0) := fun W' h => Cells.at_ (Cells.below h d1) 7
    have qd1_8 : ∀ W', Below w1.heap.size w1 W' → World.cell? W' ⟨w.heap.size + 1, 8, none⟩ = some (.int .u32 0) := fun W' h => Cells.at_ (Cells.below h d1) 8
    have qd1_9 : ∀ W', Below w1.heap.size w1 W' → World.cell? W' ⟨w.heap.size + 1, 9, none⟩ = some (.int .u16 0) := fun W' h => Cells.at_ (Cells.below h d1) 9
    have qd1_10 : ∀ W', Below w1.heap.size w1 W' → World.cell? W' ⟨w.heap.size + 1, 10, none⟩ = some (.int .i64 0) := fun W' h => Cells.at_ (Cells.below h d1) 10
    have qd1_11 : ∀ W', Below w1.heap.size w1 W' → World.cell? W' ⟨w.heap.size + 1, 11, none⟩ = some (.int .i64 0) := fun W' h => Cells.at_ (Cells.below h d1) 11
    have qd1_12 : ∀ W', Below w1.heap.size w1 W' → World.cell? W' ⟨w.heap.size + 1, 12, none⟩ = some (.slice none 0 0) := fun W' h => Cells.at_ (Cells.below h d1) 12
    have bb : Below w1.heap.size w1 w1 := Below.refl _ _
    have L0 := hide l0; have D0 := hide d0; have D1 := hide d1
    clear l0 d0 d1
    have HZ := D1; have LW := L0
    go_upto_region 2 with fail
    refine wp_region_lit ?_
    refine wpList_plain rfl fun K hK => ?_; go_simp; refine hK _ _ ?_; clear hK K
    refine wpList_store_all rfl 45 (.tmp 6) (.tmp 27) rfl HZ.out (by rfl) (by rfl) (by kernel_rfl) rfl (by simp [Value.oneCell']) ?_
    intro W5 r5 o5 z5
    go_wp2_with fail
    (try simp only [Exit.inBlock, Exit.then])
    refine bodyPost_ret (res_cell_tmp Tryd.results8 r5 (by rfl) (by rfl) _ Tryd.underlying45 rfl (by kernel_rfl)) rfl ?_
    exact ⟨.slice none 0 0, rfl, RowK.Own.nil _, (fun g e => by cases e), LW.out.trans (o5.below (fun j e => by omega) LW.out.size)⟩
theorem b_Make (w : World) (q : Pln) (A Ao : Option Addr) (n c no co : Nat) (os : List Pt) (now : Int) (hn : n = q.ws.length) (hA : wantK.Has w A q.ws) (hno : no = os.length) (hO : pointK.Has w Ao os) (hn6 : n ≤ 1000) (hno6 : no ≤ 1000) (hc : n ≤ c) (hco : no ≤ co) (hT : Lasts w) (hW : Wds w) (hp : 0 ≤ q.x.p ∧ q.x.p ≤ 255) (hb : -9223372036854775808 ≤ now ∧ now ≤ 9223372036854775807) :
    Calls Tryd.prog 8 #[.agg #[.int .u8 q.x.p, .int .u32 q.x.si, .int .u16 q.x.sp, .int .u32 q.x.di, .int .u16 q.x.dp, .int .u32 q.di, .int .u16 q.dp, .bool q.src, .int .i64 q.st, .slice A n c], .slice Ao no co, .int .i64 now] w (Made holdK w (makeV q os now)) := by
  by_cases h : no ≠ n ∨ now < 0 ∨ 1099511627776 < now
  · exact b_Make_no w q A Ao n c no co os now hn hno hn6 hno6 hb h
  · have e : no = n := by omega
    subst e
    cases hs : q.src with
    | false => exact b_Make_a w q A Ao no c co os now hn hA hno hO hn6 hc hco hT hW hp (by omega) (by omega) hs
    | true =>
      by_cases h0 : no = 0
      · exact b_Make_b w q A Ao no c co os now hn hA hno hO hn6 hc hco hT hW hp (by omega) (by omega) hs h0
      · exact b_Make_c w q A Ao no c co os now hn hA hno hO hn6 hc hco hT hW hp (by omega) (by omega) hs (by omega)
end Go.Proofs.YtilfcikhipadpaaDoor
end

section
/- binds: the document's Fits. -/
set_option linter.unusedVariables false
set_option linter.unusedSimpArgs false
namespace Go.Proofs.YtilfcikhipadpaaDoor
open Go.RowKit Go.Lib
attribute [local go_sem] Oper.semAt_some

set_option maxHeartbeats 2000000 in
theorem d_Fits (w : World) (q : Wnt) (a p : Int) : Calls Tryd.prog 7 #[.agg #[.bool q.fx, .int .u32 q.ii, .int .u16 q.ip, .int .u32 q.oi, .int .u16 q.op, .int .u32 q.a, .int .u16 q.f, .int .u16 q.t], .agg #[.int .u32 a, .int .u16 p]] w (Ret (.bool (fitsV q a p)) w) := by
  unfold fitsV
  obtain ⟨fx, ii, ipp, oi, opp, qa, qf, qt⟩ := q
  simp only
  obtain ⟨e1, h1⟩ : ∃ e1, (a == oi) = e1 := ⟨_, rfl⟩
  obtain ⟨e2, h2⟩ : ∃ e2, (p == opp) = e2 := ⟨_, rfl⟩
  obtain ⟨e3, h3⟩ : ∃ e3, (a == qa) = e3 := ⟨_, rfl⟩
  obtain ⟨e4, h4⟩ : ∃ e4, decide (qf ≤ p) = e4 := ⟨_, rfl⟩
  obtain ⟨e5, h5⟩ : ∃ e5, decide (p ≤ qt) = e5 := ⟨_, rfl⟩
  rw [h1, h2, h3, h4, h5]
  cases fx
  · simp only [Bool.false_eq_true, if_false]
    clear h1 h2
    cases e3
    · clear h4 h5
      go_enter Tryd.func7, Tryd.ntmps7
      have d0 := Cells.new w #[.bool false, .int .u32 ii, .int .u16 ipp, .int .u32 oi, .int .u16 opp, .int .u32 qa, .int .u16 qf, .int .u16 qt] 42
      replace d0 := Cells.below (fresh_below (w.alloc (.cells #[.bool false, .int .u32 ii, .int .u16 ipp, .int .u32 oi, .int .u16 opp, .int .u32 qa, .int .u16 qf, .int .u16 qt] 42)) (.cells #[.int .u32 a, .int .u16 p] 26)) d0
      have d1 := Cells.new (w.alloc (.cells #[.bool false, .int .u32 ii, .int .u16 ipp, .int .u32 oi, .int .u16 opp, .int .u32 qa, .int .u16 qf, .int .u16 qt] 42)) #[.int .u32 a, .int .u16 p] 26
      have l0 : Below w.heap.size w ((w.alloc (.cells #[.bool false, .int .u32 ii, .int .u16 ipp, .int .u32 oi, .int .u16 opp, .int .u32 qa, .int .u16 qf, .int .u16 qt] 42)).alloc (.cells #[.int .u32 a, .int .u16 p] 26)) := (bstep (fresh_below _ _) (fresh_below _ _))
      simp only [World.size_alloc] at d1
      have L0 := hide l0; have D0 := hide d0; have D1 := hide d1
      clear l0 d0 d1
      go_upto_region 1 with fail
      have l0 := L0.out; have d0 := D0.out; have d1 := D1.out
      clear L0 D0 D1
      generalize ((w.alloc (.cells #[.bool false, .int .u32 ii, .int .u16 ipp, .int .u32 oi, .int .u16 opp, .int .u32 qa, .int .u16 qf, .int .u16 qt] 42)).alloc (.cells #[.int .u32 a, .int .u16 p] 26)) = w1 at *
      have qd0_0 : ∀ W', Below w1.heap.size w1 W' → World.cell? W' ⟨w.heap.size, 0, none⟩ = some (.bool false) := fun W' h => Cells.at_ (Cells.below h d0) 0
      have qd0_1 : ∀ W', Below w1.heap.size w1 W' → World.cell? W' ⟨w.heap.size, 1, none⟩ = some (.int .u32 ii) := fun W' h => Cells.at_ (Cells.below h d0) 1
      have qd0_2 : ∀ W', Below w1.heap.size w1 W' → World.cell? W' ⟨w.heap.size, 2, none⟩ = some (.int .u16 ipp) := fun W' h => Cells.at_ (Cells.below h d0) 2
      have qd0_3 : ∀ W', Below w1.heap.size w1 W' → World.cell? W' ⟨w.heap.size, 3, none⟩ = some (.int .u32 oi) := fun W' h => Cells.at_ (Cells.below h d0) 3
      have qd0_4 : ∀ W', Below w1.heap.size w1 W' → World.cell? W' ⟨w.heap.size, 4, none⟩ = some (.int .u16 opp) := fun W' h => Cells.at_ (Cells.below h d0) 4
      have qd0_5 : ∀ W', Below w1.heap.size w1 W' → World.cell? W' ⟨w.heap.size, 5, none⟩ = some (.int .u32 qa) := fun W' h => Cells.at_ (Cells.below h d0) 5
      have qd0_6 : ∀ W', Below w1.heap.size w1 W' → World.cell? W' ⟨w.heap.size, 6, none⟩ = some (.int .u16 qf) := fun W' h => Cells.at_ (Cells.below h d0) 6
      have qd0_7 : ∀ W', Below w1.heap.size w1 W' → World.cell? W' ⟨w.heap.size, 7, none⟩ = some (.int .u16 qt) := fun W' h => Cells.at_ (Cells.below h d0) 7
      have qd1_0 : ∀ W', Below w1.heap.size w1 W' → World.cell? W' ⟨w.heap.size + 1, 0, none⟩ = some (.int .u32 a) := fun W' h => Cells.at_ (Cells.below h d1) 0
      have qd1_1 : ∀ W', Below w1.heap.size w1 W' → World.cell? W' ⟨w.heap.size + 1, 1, none⟩ = some (.int .u16 p) := fun W' h => Cells.at_ (Cells.below h d1) 1
      have bb : Below w1.heap.size w1 w1 := Below.refl _ _
      have L0 := hide l0; have D0 := hide d0; have D1 := hide d1
      clear l0 d0 d1
      go_wp2_with fail
      go_ret
      exact ⟨by first | rfl | simp, L0.out⟩
    · cases e4
      · clear h5
        go_enter Tryd.func7, Tryd.ntmps7
        have d0 := Cells.new w #[.bool false, .int .u32 ii, .int .u16 ipp, .int .u32 oi, .int .u16 opp, .int .u32 qa, .int .u16 qf, .int .u16 qt] 42
        replace d0 := Cells.below (fresh_below (w.alloc (.cells #[.bool false, .int .u32 ii, .int .u16 ipp, .int .u32 oi, .int .u16 opp, .int .u32 qa, .int .u16 qf, .int .u16 qt] 42)) (.cells #[.int .u32 a, .int .u16 p] 26)) d0
        have d1 := Cells.new (w.alloc (.cells #[.bool false, .int .u32 ii, .int .u16 ipp, .int .u32 oi, .int .u16 opp, .int .u32 qa, .int .u16 qf, .int .u16 qt] 42)) #[.int .u32 a, .int .u16 p] 26
        have l0 : Below w.heap.size w ((w.alloc (.cells #[.bool false, .int .u32 ii, .int .u16 ipp, .int .u32 oi, .int .u16 opp, .int .u32 qa, .int .u16 qf, .int .u16 qt] 42)).alloc (.cells #[.int .u32 a, .int .u16 p] 26)) := (bstep (fresh_below _ _) (fresh_below _ _))
        simp only [World.size_alloc] at d1
        have L0 := hide l0; have D0 := hide d0; have D1 := hide d1
        clear l0 d0 d1
        go_upto_region 1 with fail
        have l0 := L0.out; have d0 := D0.out; have d1 := D1.out
        clear L0 D0 D1
        generalize ((w.alloc (.cells #[.bool false, .int .u32 ii, .int .u16 ipp, .int .u32 oi, .int .u16 opp, .int .u32 qa, .int .u16 qf, .int .u16 qt] 42)).alloc (.cells #[.int .u32 a, .int .u16 p] 26)) = w1 at *
        have qd0_0 : ∀ W', Below w1.heap.size w1 W' → World.cell? W' ⟨w.heap.size, 0, none⟩ = some (.bool false) := fun W' h => Cells.at_ (Cells.below h d0) 0
        have qd0_1 : ∀ W', Below w1.heap.size w1 W' → World.cell? W' ⟨w.heap.size, 1, none⟩ = some (.int .u32 ii) := fun W' h => Cells.at_ (Cells.below h d0) 1
        have qd0_2 : ∀ W', Below w1.heap.size w1 W' → World.cell? W' ⟨w.heap.size, 2, none⟩ = some (.int .u16 ipp) := fun W' h => Cells.at_ (Cells.below h d0) 2
        have qd0_3 : ∀ W', Below w1.heap.size w1 W' → World.cell? W' ⟨w.heap.size, 3, none⟩ = some (.int .u32 oi) := fun W' h => Cells.at_ (Cells.below h d0) 3
        have qd0_4 : ∀ W', Below w1.heap.size w1 W' → World.cell? W' ⟨w.heap.size, 4, none⟩ = some (.int .u16 opp) := fun W' h => Cells.at_ (Cells.below h d0) 4
        have qd0_5 : ∀ W', Below w1.heap.size w1 W' → World.cell? W' ⟨w.heap.size, 5, none⟩ = some (.int .u32 qa) := fun W' h => Cells.at_ (Cells.below h d0) 5
        have qd0_6 : ∀ W', Below w1.heap.size w1 W' → World.cell? W' ⟨w.heap.size, 6, none⟩ = some (.int .u16 qf) := fun W' h => Cells.at_ (Cells.below h d0) 6
        have qd0_7 : ∀ W', Below w1.heap.size w1 W' → World.cell? W' ⟨w.heap.size, 7, none⟩ = some (.int .u16 qt) := fun W' h => Cells.at_ (Cells.below h d0) 7
        have qd1_0 : ∀ W', Below w1.heap.size w1 W' → World.cell? W' ⟨w.heap.size + 1, 0, none⟩ = some (.int .u32 a) := fun W' h => Cells.at_ (Cells.below h d1) 0
        have qd1_1 : ∀ W', Below w1.heap.size w1 W' → World.cell? W' ⟨w.heap.size + 1, 1, none⟩ = some (.int .u16 p) := fun W' h => Cells.at_ (Cells.below h d1) 1
        have bb : Below w1.heap.size w1 w1 := Below.refl _ _
        have L0 := hide l0; have D0 := hide d0; have D1 := hide d1
        clear l0 d0 d1
        go_wp2_with fail
        go_ret
        exact ⟨by first | rfl | simp, L0.out⟩
      · go_enter Tryd.func7, Tryd.ntmps7
        have d0 := Cells.new w #[.bool false, .int .u32 ii, .int .u16 ipp, .int .u32 oi, .int .u16 opp, .int .u32 qa, .int .u16 qf, .int .u16 qt] 42
        replace d0 := Cells.below (fresh_below (w.alloc (.cells #[.bool false, .int .u32 ii, .int .u16 ipp, .int .u32 oi, .int .u16 opp, .int .u32 qa, .int .u16 qf, .int .u16 qt] 42)) (.cells #[.int .u32 a, .int .u16 p] 26)) d0
        have d1 := Cells.new (w.alloc (.cells #[.bool false, .int .u32 ii, .int .u16 ipp, .int .u32 oi, .int .u16 opp, .int .u32 qa, .int .u16 qf, .int .u16 qt] 42)) #[.int .u32 a, .int .u16 p] 26
        have l0 : Below w.heap.size w ((w.alloc (.cells #[.bool false, .int .u32 ii, .int .u16 ipp, .int .u32 oi, .int .u16 opp, .int .u32 qa, .int .u16 qf, .int .u16 qt] 42)).alloc (.cells #[.int .u32 a, .int .u16 p] 26)) := (bstep (fresh_below _ _) (fresh_below _ _))
        simp only [World.size_alloc] at d1
        have L0 := hide l0; have D0 := hide d0; have D1 := hide d1
        clear l0 d0 d1
        go_upto_region 1 with fail
        have l0 := L0.out; have d0 := D0.out; have d1 := D1.out
        clear L0 D0 D1
        generalize ((w.alloc (.cells #[.bool false, .int .u32 ii, .int .u16 ipp, .int .u32 oi, .int .u16 opp, .int .u32 qa, .int .u16 qf, .int .u16 qt] 42)).alloc (.cells #[.int .u32 a, .int .u16 p] 26)) = w1 at *
        have qd0_0 : ∀ W', Below w1.heap.size w1 W' → World.cell? W' ⟨w.heap.size, 0, none⟩ = some (.bool false) := fun W' h => Cells.at_ (Cells.below h d0) 0
        have qd0_1 : ∀ W', Below w1.heap.size w1 W' → World.cell? W' ⟨w.heap.size, 1, none⟩ = some (.int .u32 ii) := fun W' h => Cells.at_ (Cells.below h d0) 1
        have qd0_2 : ∀ W', Below w1.heap.size w1 W' → World.cell? W' ⟨w.heap.size, 2, none⟩ = some (.int .u16 ipp) := fun W' h => Cells.at_ (Cells.below h d0) 2
        have qd0_3 : ∀ W', Below w1.heap.size w1 W' → World.cell? W' ⟨w.heap.size, 3, none⟩ = some (.int .u32 oi) := fun W' h => Cells.at_ (Cells.below h d0) 3
        have qd0_4 : ∀ W', Below w1.heap.size w1 W' → World.cell? W' ⟨w.heap.size, 4, none⟩ = some (.int .u16 opp) := fun W' h => Cells.at_ (Cells.below h d0) 4
        have qd0_5 : ∀ W', Below w1.heap.size w1 W' → World.cell? W' ⟨w.heap.size, 5, none⟩ = some (.int .u32 qa) := fun W' h => Cells.at_ (Cells.below h d0) 5
        have qd0_6 : ∀ W', Below w1.heap.size w1 W' → World.cell? W' ⟨w.heap.size, 6, none⟩ = some (.int .u16 qf) := fun W' h => Cells.at_ (Cells.below h d0) 6
        have qd0_7 : ∀ W', Below w1.heap.size w1 W' → World.cell? W' ⟨w.heap.size, 7, none⟩ = some (.int .u16 qt) := fun W' h => Cells.at_ (Cells.below h d0) 7
        have qd1_0 : ∀ W', Below w1.heap.size w1 W' → World.cell? W' ⟨w.heap.size + 1, 0, none⟩ = some (.int .u32 a) := fun W' h => Cells.at_ (Cells.below h d1) 0
        have qd1_1 : ∀ W', Below w1.heap.size w1 W' → World.cell? W' ⟨w.heap.size + 1, 1, none⟩ = some (.int .u16 p) := fun W' h => Cells.at_ (Cells.below h d1) 1
        have bb : Below w1.heap.size w1 w1 := Below.refl _ _
        have L0 := hide l0; have D0 := hide d0; have D1 := hide d1
        clear l0 d0 d1
        go_wp2_with fail
        go_ret
        exact ⟨by first | rfl | simp, L0.out⟩
  · simp only [if_true]
    clear h3 h4 h5
    cases e1 <;> cases e2
    all_goals
      go_enter Tryd.func7, Tryd.ntmps7
      have d0 := Cells.new w #[.bool true, .int .u32 ii, .int .u16 ipp, .int .u32 oi, .int .u16 opp, .int .u32 qa, .int .u16 qf, .int .u16 qt] 42
      replace d0 := Cells.below (fresh_below (w.alloc (.cells #[.bool true, .int .u32 ii, .int .u16 ipp, .int .u32 oi, .int .u16 opp, .int .u32 qa, .int .u16 qf, .int .u16 qt] 42)) (.cells #[.int .u32 a, .int .u16 p] 26)) d0
      have d1 := Cells.new (w.alloc (.cells #[.bool true, .int .u32 ii, .int .u16 ipp, .int .u32 oi, .int .u16 opp, .int .u32 qa, .int .u16 qf, .int .u16 qt] 42)) #[.int .u32 a, .int .u16 p] 26
      have l0 : Below w.heap.size w ((w.alloc (.cells #[.bool true, .int .u32 ii, .int .u16 ipp, .int .u32 oi, .int .u16 opp, .int .u32 qa, .int .u16 qf, .int .u16 qt] 42)).alloc (.cells #[.int .u32 a, .int .u16 p] 26)) := (bstep (fresh_below _ _) (fresh_below _ _))
      simp only [World.size_alloc] at d1
      have L0 := hide l0; have D0 := hide d0; have D1 := hide d1
      clear l0 d0 d1
      go_upto_region 1 with fail
      have l0 := L0.out; have d0 := D0.out; have d1 := D1.out
      clear L0 D0 D1
      generalize ((w.alloc (.cells #[.bool true, .int .u32 ii, .int .u16 ipp, .int .u32 oi, .int .u16 opp, .int .u32 qa, .int .u16 qf, .int .u16 qt] 42)).alloc (.cells #[.int .u32 a, .int .u16 p] 26)) = w1 at *
      have qd0_0 : ∀ W', Below w1.heap.size w1 W' → World.cell? W' ⟨w.heap.size, 0, none⟩ = some (.bool true) := fun W' h => Cells.at_ (Cells.below h d0) 0
      have qd0_1 : ∀ W', Below w1.heap.size w1 W' → World.cell? W' ⟨w.heap.size, 1, none⟩ = some (.int .u32 ii) := fun W' h => Cells.at_ (Cells.below h d0) 1
      have qd0_2 : ∀ W', Below w1.heap.size w1 W' → World.cell? W' ⟨w.heap.size, 2, none⟩ = some (.int .u16 ipp) := fun W' h => Cells.at_ (Cells.below h d0) 2
      have qd0_3 : ∀ W', Below w1.heap.size w1 W' → World.cell? W' ⟨w.heap.size, 3, none⟩ = some (.int .u32 oi) := fun W' h => Cells.at_ (Cells.below h d0) 3
      have qd0_4 : ∀ W', Below w1.heap.size w1 W' → World.cell? W' ⟨w.heap.size, 4, none⟩ = some (.int .u16 opp) := fun W' h => Cells.at_ (Cells.below h d0) 4
      have qd0_5 : ∀ W', Below w1.heap.size w1 W' → World.cell? W' ⟨w.heap.size, 5, none⟩ = some (.int .u32 qa) := fun W' h => Cells.at_ (Cells.below h d0) 5
      have qd0_6 : ∀ W', Below w1.heap.size w1 W' → World.cell? W' ⟨w.heap.size, 6, none⟩ = some (.int .u16 qf) := fun W' h => Cells.at_ (Cells.below h d0) 6
      have qd0_7 : ∀ W', Below w1.heap.size w1 W' → World.cell? W' ⟨w.heap.size, 7, none⟩ = some (.int .u16 qt) := fun W' h => Cells.at_ (Cells.below h d0) 7
      have qd1_0 : ∀ W', Below w1.heap.size w1 W' → World.cell? W' ⟨w.heap.size + 1, 0, none⟩ = some (.int .u32 a) := fun W' h => Cells.at_ (Cells.below h d1) 0
      have qd1_1 : ∀ W', Below w1.heap.size w1 W' → World.cell? W' ⟨w.heap.size + 1, 1, none⟩ = some (.int .u16 p) := fun W' h => Cells.at_ (Cells.below h d1) 1
      have bb : Below w1.heap.size w1 w1 := Below.refl _ _
      have L0 := hide l0; have D0 := hide d0; have D1 := hide d1
      clear l0 d0 d1
      go_wp2_with fail
      go_ret
      exact ⟨by first | rfl | simp, L0.out⟩
end Go.Proofs.YtilfcikhipadpaaDoor
end
