/- Several texts of this claim, one behind the other. -/
import Derived.Test.YtilfcikhipadpaaDoorM25
import Derived.Test.YtilfcikhipadpaaDoorM17
import Derived.Test.YtilfcikhipadpaaDoorM18

section
/- The document's Make (porterref20): as a whole. -/
set_option linter.unusedVariables false
set_option linter.unusedSimpArgs false
namespace Go.Proofs.YtilfcikhipadpaaDoor
open Go.RowKit Go.Lib
attribute [local go_sem] Oper.semAt_some envL lookV

set_option maxHeartbeats 4000000 in
set_option maxRecDepth 100000 in
theorem d_Make_no (w : World) (q : Pln) (A Ao : Option Addr) (n c no co : Nat) (os : List Pt) (now : Int) (hn : n = q.ws.length) (hno : no = os.length) (hn6 : n ≤ 1000) (hno6 : no ≤ 1000) (hb : -9223372036854775808 ≤ now ∧ now ≤ 9223372036854775807) (h : no ≠ n ∨ now < 0 ∨ 1099511627776 < now) :
    Calls Tryd.prog 9 #[.agg #[.int .u8 q.x.p, .int .u32 q.x.si, .int .u16 q.x.sp, .int .u32 q.x.di, .int .u16 q.x.dp, .int .u32 q.di, .int .u16 q.dp, .bool q.src, .int .i64 q.st, .slice A n c], .slice Ao no co, .int .i64 now] w (Made dholdK w (makeV q os now)) := by
  have hmk : makeV q os now = (zeroE, 2) := by
    unfold makeV
    rw [if_pos (by omega)]
  rw [hmk]
  clear hmk hn hno
  have hq : (¬ (no : Int) = (n : Int)) ∨ ((no : Int) = (n : Int) ∧ now < 0) ∨ ((no : Int) = (n : Int) ∧ ¬ now < 0 ∧ 1099511627776 < now) := by omega
  clear h
  rcases hq with h1 | ⟨h1, h2⟩ | ⟨h1, h2, h3⟩
  · have e1 : ((no : Int) != (n : Int)) = true := by simpa using h1
    clear h1 hb hn6 hno6
    go_enter Tryd.func9, Tryd.ntmps9
    have d0 := Cells.new w #[.int .u8 q.x.p, .int .u32 q.x.si, .int .u16 q.x.sp, .int .u32 q.x.di, .int .u16 q.x.dp, .int .u32 q.di, .int .u16 q.dp, .bool q.src, .int .i64 q.st, .slice A n c] 36
    replace d0 := Cells.below (fresh_below (w.alloc (.cells #[.int .u8 q.x.p, .int .u32 q.x.si, .int .u16 q.x.sp, .int .u32 q.x.di, .int .u16 q.x.dp, .int .u32 q.di, .int .u16 q.dp, .bool q.src, .int .i64 q.st, .slice A n c] 36)) (.cells #[.int .u8 0, .int .u32 0, .int .u16 0, .int .u32 0, .int .u16 0, .int .u8 0, .int .u32 0, .int .u16 0, .int .u32 0, .int .u16 0, .int .i64 0, .int .i64 0, .slice none 0 0] 51)) d0
    have d1 := Cells.new (w.alloc (.cells #[.int .u8 q.x.p, .int .u32 q.x.si, .int .u16 q.x.sp, .int .u32 q.x.di, .int .u16 q.x.dp, .int .u32 q.di, .int .u16 q.dp, .bool q.src, .int .i64 q.st, .slice A n c] 36)) #[.int .u8 0, .int .u32 0, .int .u16 0, .int .u32 0, .int .u16 0, .int .u8 0, .int .u32 0, .int .u16 0, .int .u32 0, .int .u16 0, .int .i64 0, .int .i64 0, .slice none 0 0] 51
    have l0 : Below w.heap.size w ((w.alloc (.cells #[.int .u8 q.x.p, .int .u32 q.x.si, .int .u16 q.x.sp, .int .u32 q.x.di, .int .u16 q.x.dp, .int .u32 q.di, .int .u16 q.dp, .bool q.src, .int .i64 q.st, .slice A n c] 36)).alloc (.cells #[.int .u8 0, .int .u32 0, .int .u16 0, .int .u32 0, .int .u16 0, .int .u8 0, .int .u32 0, .int .u16 0, .int .u32 0, .int .u16 0, .int .i64 0, .int .i64 0, .slice none 0 0] 51)) := (bstep (fresh_below _ _) (fresh_below _ _))
    simp only [World.size_alloc] at d1
    have L0 := hide l0; have D0 := hide d0; have D1 := hide d1
    clear l0 d0 d1
    go_upto_region 1 with fail
    have l0 := L0.out; have d0 := D0.out; have d1 := D1.out
    clear L0 D0 D1
    generalize ((w.alloc (.cells #[.int .u8 q.x.p, .int .u32 q.x.si, .int .u16 q.x.sp, .int .u32 q.x.di, .int .u16 q.x.dp, .int .u32 q.di, .int .u16 q.dp, .bool q.src, .int .i64 q.st, .slice A n c] 36)).alloc (.cells #[.int .u8 0, .int .u32 0, .int .u16 0, .int .u32 0, .int .u16 0, .int .u8 0, .int .u32 0, .int .u16 0, .int .u32 0, .int .u16 0, .int .i64 0, .int .i64 0, .slice none 0 0] 51)) = w1 at *
    have qd0_0 : ∀ W', Below w1.heap.size w1 W' → World.cell? W' ⟨w.heap.size, 0, none⟩ = some (.int .u8 q.x.p) := fun W' h => Cells.at_ (Cells.below h d0) 0
    have qd0_1 : ∀ W', Below w1.heap.size w1 W' → World.cell? W' ⟨w.heap.size, 1, none⟩ = some (.int .u32 q.x.si) := fun W' h => Cells.at_ (Cells.below h d0) 1
    have qd0_2 : ∀ W', Below w1.heap.size w1 W' → World.cell? W' ⟨w.heap.size, 2, none⟩ = some (.int .u16 q.x.sp) := fun W' h => Cells.at_ (Cells.below h d0) 2
    have qd0_3 : ∀ W', Below w1.heap.size w1 W' → World.cell? W' ⟨w.heap.size, 3, none⟩ = some (.int .u32 q.x.di) := fun W' h => Cells.at_ (Cells.below h d0) 3
    have qd0_4 : ∀ W', Below w1.heap.size w1 W' → World.cell? W' ⟨w.heap.size, 4, none⟩ = some (.int .u16 q.x.dp) := fun W' h => Cells.at_ (Cells.below h d0) 4
    have qd0_5 : ∀ W', Below w1.heap.size w1 W' → World.cell? W' ⟨w.heap.size, 5, none⟩ = some (.int .u32 q.di) := fun W' h => Cells.at_ (Cells.below h d0) 5
    have qd0_6 : ∀ W', Below w1.heap.size w1 W' → World.cell? W' ⟨w.heap.size, 6, none⟩ = some (.int .u16 q.dp) := fun W' h => Cells.at_ (Cells.below h d0) 6
    have qd0_7 : ∀ W', Below w1.heap.size w1 W' → World.cell? W' ⟨w.heap.size, 7, none⟩ = some (.bool q.src) := fun W' h => Cells.at_ (Cells.below h d0) 7
    have qd0_8 : ∀ W', Below w1.heap.size w1 W' → World.cell? W' ⟨w.heap.size, 8, none⟩ = some (.int .i64 q.st) := fun W' h => Cells.at_ (Cells.below h d0) 8
    have qd0_9 : ∀ W', Below w1.heap.size w1 W' → World.cell? W' ⟨w.heap.size, 9, none⟩ = some (.slice A n c) := fun W' h => Cells.at_ (Cells.below h d0) 9
    have qd1_0 : ∀ W', Below w1.heap.size w1 W' → World.cell? W' ⟨w.heap.size + 1, 0, none⟩ = some (.int .u8 0) := fun W' h => Cells.at_ (Cells.below h d1) 0
    have qd1_1 : ∀ W', Below w1.heap.size w1 W' → World.cell? W' ⟨w.heap.size + 1, 1, none⟩ = some (.int .u32 0) := fun W' h => Cells.at_ (Cells.below h d1) 1
    have qd1_2 : ∀ W', Below w1.heap.size w1 W' → World.cell? W' ⟨w.heap.size + 1, 2, none⟩ = some (.int .u16 0) := fun W' h => Cells.at_ (Cells.below h d1) 2
    have qd1_3 : ∀ W', Below w1.heap.size w1 W' → World.cell? W' ⟨w.heap.size + 1, 3, none⟩ = some (.int .u32 0) := fun W' h => Cells.at_ (Cells.below h d1) 3
    have qd1_4 : ∀ W', Below w1.heap.size w1 W' → World.cell? W' ⟨w.heap.size + 1, 4, none⟩ = some (.int .u16 0) := fun W' h => Cells.at_ (Cells.below h d1) 4
    have qd1_5 : ∀ W', Below w1.heap.size w1 W' → World.cell? W' ⟨w.heap.size + 1, 5, none⟩ = some (.int .u8 0) := fun W' h => Cells.at_ (Cells.below h d1) 5
    have qd1_6 : ∀ W', Below w1.heap.size w1 W' → World.cell? W' ⟨w.heap.size + 1, 6, none⟩ = some (.int .u32 0) := fun W' h => Cells.at_ (Cells.below h d1) 6
    have qd1_7 : ∀ W', Below w1.heap.size w1 W' → World.cell? W' ⟨w.heap.size + 1, 7, none⟩ = some (.int .u16 0) := fun W' h => Cells.at_ (Cells.below h d1) 7
    have qd1_8 : ∀ W', Below w1.heap.size w1 W' → World.cell? W' ⟨w.heap.size + 1, 8, none⟩ = some (.int .u32 0) := fun W' h => Cells.at_ (Cells.below h d1) 8
    have qd1_9 : ∀ W', Below w1.heap.size w1 W' → World.cell? W' ⟨w.heap.size + 1, 9, none⟩ = some (.int .u16 0) := fun W' h => Cells.at_ (Cells.below h d1) 9
    have qd1_10 : ∀ W', Below w1.heap.size w1 W' → World.cell? W' ⟨w.heap.size + 1, 10, none⟩ = some (.int .i64 0) := fun W' h => Cells.at_ (Cells.below h d1) 10
    have qd1_11 : ∀ W', Below w1.heap.size w1 W' → World.cell? W' ⟨w.heap.size + 1, 11, none⟩ = some (.int .i64 0) := fun W' h => Cells.at_ (Cells.below h d1) 11
    have qd1_12 : ∀ W', Below w1.heap.size w1 W' → World.cell? W' ⟨w.heap.size + 1, 12, none⟩ = some (.slice none 0 0) := fun W' h => Cells.at_ (Cells.below h d1) 12
    have bb : Below w1.heap.size w1 w1 := Below.refl _ _
    have L0 := hide l0; have D0 := hide d0; have D1 := hide d1
    clear l0 d0 d1
    have HZ := D1; have LW := L0
    go_upto_region 2 with fail
    refine wp_region_lit ?_
    refine wpList_plain rfl fun K hK => ?_; go_simp; refine hK _ _ ?_; clear hK K
    refine wpList_store_all rfl 51 (.tmp 6) (.tmp 24) rfl HZ.out (by rfl) (by rfl) (by kernel_rfl) rfl (by simp [Value.oneCell']) ?_
    intro W5 r5 o5 z5
    go_wp2_with fail
    (try simp only [Exit.inBlock, Exit.then])
    refine bodyPost_ret (res_cell_tmp Tryd.results9 r5 (by rfl) (by rfl) _ Tryd.underlying51 rfl (by kernel_rfl)) rfl ?_
    exact ⟨.slice none 0 0, rfl, RowK.Own.nil _, (fun g e => by cases e), LW.out.trans (o5.below (fun j e => by omega) LW.out.size)⟩
  · have e1 : ((no : Int) != (n : Int)) = false := by simpa using h1
    clear h1 hb hn6 hno6
    go_enter Tryd.func9, Tryd.ntmps9
    have d0 := Cells.new w #[.int .u8 q.x.p, .int .u32 q.x.si, .int .u16 q.x.sp, .int .u32 q.x.di, .int .u16 q.x.dp, .int .u32 q.di, .int .u16 q.dp, .bool q.src, .int .i64 q.st, .slice A n c] 36
    replace d0 := Cells.below (fresh_below (w.alloc (.cells #[.int .u8 q.x.p, .int .u32 q.x.si, .int .u16 q.x.sp, .int .u32 q.x.di, .int .u16 q.x.dp, .int .u32 q.di, .int .u16 q.dp, .bool q.src, .int .i64 q.st, .slice A n c] 36)) (.cells #[.int .u8 0, .int .u32 0, .int .u16 0, .int .u32 0, .int .u16 0, .int .u8 0, .int .u32 0, .int .u16 0, .int .u32 0, .int .u16 0, .int .i64 0, .int .i64 0, .slice none 0 0] 51)) d0
    have d1 := Cells.new (w.alloc (.cells #[.int .u8 q.x.p, .int .u32 q.x.si, .int .u16 q.x.sp, .int .u32 q.x.di, .int .u16 q.x.dp, .int .u32 q.di, .int .u16 q.dp, .bool q.src, .int .i64 q.st, .slice A n c] 36)) #[.int .u8 0, .int .u32 0, .int .u16 0, .int .u32 0, .int .u16 0, .int .u8 0, .int .u32 0, .int .u16 0, .int .u32 0, .int .u16 0, .int .i64 0, .int .i64 0, .slice none 0 0] 51
    have l0 : Below w.heap.size w ((w.alloc (.cells #[.int .u8 q.x.p, .int .u32 q.x.si, .int .u16 q.x.sp, .int .u32 q.x.di, .int .u16 q.x.dp, .int .u32 q.di, .int .u16 q.dp, .bool q.src, .int .i64 q.st, .slice A n c] 36)).alloc (.cells #[.int .u8 0, .int .u32 0, .int .u16 0, .int .u32 0, .int .u16 0, .int .u8 0, .int .u32 0, .int .u16 0, .int .u32 0, .int .u16 0, .int .i64 0, .int .i64 0, .slice none 0 0] 51)) := (bstep (fresh_below _ _) (fresh_below _ _))
    simp only [World.size_alloc] at d1
    have L0 := hide l0; have D0 := hide d0; have D1 := hide d1
    clear l0 d0 d1
    go_upto_region 1 with fail
    have l0 := L0.out; have d0 := D0.out; have d1 := D1.out
    clear L0 D0 D1
    generalize ((w.alloc (.cells #[.int .u8 q.x.p, .int .u32 q.x.si, .int .u16 q.x.sp, .int .u32 q.x.di, .int .u16 q.x.dp, .int .u32 q.di, .int .u16 q.dp, .bool q.src, .int .i64 q.st, .slice A n c] 36)).alloc (.cells #[.int .u8 0, .int .u32 0, .int .u16 0, .int .u32 0, .int .u16 0, .int .u8 0, .int .u32 0, .int .u16 0, .int .u32 0, .int .u16 0, .int .i64 0, .int .i64 0, .slice none 0 0] 51)) = w1 at *
    have qd0_0 : ∀ W', Below w1.heap.size w1 W' → World.cell? W' ⟨w.heap.size, 0, none⟩ = some (.int .u8 q.x.p) := fun W' h => Cells.at_ (Cells.below h d0) 0
    have qd0_1 : ∀ W', Below w1.heap.size w1 W' → World.cell? W' ⟨w.heap.size, 1, none⟩ = some (.int .u32 q.x.si) := fun W' h => Cells.at_ (Cells.below h d0) 1
    have qd0_2 : ∀ W', Below w1.heap.size w1 W' → World.cell? W' ⟨w.heap.size, 2, none⟩ = some (.int .u16 q.x.sp) := fun W' h => Cells.at_ (Cells.below h d0) 2
    have qd0_3 : ∀ W', Below w1.heap.size w1 W' → World.cell? W' ⟨w.heap.size, 3, none⟩ = some (.int .u32 q.x.di) := fun W' h => Cells.at_ (Cells.below h d0) 3
    have qd0_4 : ∀ W', Below w1.heap.size w1 W' → World.cell? W' ⟨w.heap.size, 4, none⟩ = some (.int .u16 q.x.dp) := fun W' h => Cells.at_ (Cells.below h d0) 4
    have qd0_5 : ∀ W', Below w1.heap.size w1 W' → World.cell? W' ⟨w.heap.size, 5, none⟩ = some (.int .u32 q.di) := fun W' h => Cells.at_ (Cells.below h d0) 5
    have qd0_6 : ∀ W', Below w1.heap.size w1 W' → World.cell? W' ⟨w.heap.size, 6, none⟩ = some (.int .u16 q.dp) := fun W' h => Cells.at_ (Cells.below h d0) 6
    have qd0_7 : ∀ W', Below w1.heap.size w1 W' → World.cell? W' ⟨w.heap.size, 7, none⟩ = some (.bool q.src) := fun W' h => Cells.at_ (Cells.below h d0) 7
    have qd0_8 : ∀ W', Below w1.heap.size w1 W' → World.cell? W' ⟨w.heap.size, 8, none⟩ = some (.int .i64 q.st) := fun W' h => Cells.at_ (Cells.below h d0) 8
    have qd0_9 : ∀ W', Below w1.heap.size w1 W' → World.cell? W' ⟨w.heap.size, 9, none⟩ = some (.slice A n c) := fun W' h => Cells.at_ (Cells.below h d0) 9
    have qd1_0 : ∀ W', Below w1.heap.size w1 W' → World.cell? W' ⟨w.heap.size + 1, 0, none⟩ = some (.int .u8 0) := fun W' h => Cells.at_ (Cells.below h d1) 0
    have qd1_1 : ∀ W', Below w1.heap.size w1 W' → World.cell? W' ⟨w.heap.size + 1, 1, none⟩ = some (.int .u32 0) := fun W' h => Cells.at_ (Cells.below h d1) 1
    have qd1_2 : ∀ W', Below w1.heap.size w1 W' → World.cell? W' ⟨w.heap.size + 1, 2, none⟩ = some (.int .u16 0) := fun W' h => Cells.at_ (Cells.below h d1) 2
    have qd1_3 : ∀ W', Below w1.heap.size w1 W' → World.cell? W' ⟨w.heap.size + 1, 3, none⟩ = some (.int .u32 0) := fun W' h => Cells.at_ (Cells.below h d1) 3
    have qd1_4 : ∀ W', Below w1.heap.size w1 W' → World.cell? W' ⟨w.heap.size + 1, 4, none⟩ = some (.int .u16 0) := fun W' h => Cells.at_ (Cells.below h d1) 4
    have qd1_5 : ∀ W', Below w1.heap.size w1 W' → World.cell? W' ⟨w.heap.size + 1, 5, none⟩ = some (.int .u8 0) := fun W' h => Cells.at_ (Cells.below h d1) 5
    have qd1_6 : ∀ W', Below w1.heap.size w1 W' → World.cell? W' ⟨w.heap.size + 1, 6, none⟩ = some (.int .u32 0) := fun W' h => Cells.at_ (Cells.below h d1) 6
    have qd1_7 : ∀ W', Below w1.heap.size w1 W' → World.cell? W' ⟨w.heap.size + 1, 7, none⟩ = some (.int .u16 0) := fun W' h => Cells.at_ (Cells.below h d1) 7
    have qd1_8 : ∀ W', Below w1.heap.size w1 W' → World.cell? W' ⟨w.heap.size + 1, 8, none⟩ = some (.int .u32 0) := fun W' h => Cells.at_ (Cells.below h d1) 8
    have qd1_9 : ∀ W', Below w1.heap.size w1 W' → World.cell? W' ⟨w.heap.size + 1, 9, none⟩ = some (.int .u16 0) := fun W' h => Cells.at_ (Cells.below h d1) 9
    have qd1_10 : ∀ W', Below w1.heap.size w1 W' → World.cell? W' ⟨w.heap.size + 1, 10, none⟩ = some (.int .i64 0) := fun W' h => Cells.at_ (Cells.below h d1) 10
    have qd1_11 : ∀ W', Below w1.heap.size w1 W' → World.cell? W' ⟨w.heap.size + 1, 11, none⟩ = some (.int .i64 0) := fun W' h => Cells.at_ (Cells.below h d1) 11
    have qd1_12 : ∀ W', Below w1.heap.size w1 W' → World.cell? W' ⟨w.heap.size + 1, 12, none⟩ = some (.slice none 0 0) := fun W' h => Cells.at_ (Cells.below h d1) 12
    have bb : Below w1.heap.size w1 w1 := Below.refl _ _
    have L0 := hide l0; have D0 := hide d0; have D1 := hide d1
    clear l0 d0 d1
    have HZ := D1; have LW := L0
    go_upto_region 2 with fail
    refine wp_region_lit ?_
    refine wpList_plain rfl fun K hK => ?_; go_simp; refine hK _ _ ?_; clear hK K
    refine wpList_store_all rfl 51 (.tmp 6) (.tmp 24) rfl HZ.out (by rfl) (by rfl) (by kernel_rfl) rfl (by simp [Value.oneCell']) ?_
    intro W5 r5 o5 z5
    go_wp2_with fail
    (try simp only [Exit.inBlock, Exit.then])
    refine bodyPost_ret (res_cell_tmp Tryd.results9 r5 (by rfl) (by rfl) _ Tryd.underlying51 rfl (by kernel_rfl)) rfl ?_
    exact ⟨.slice none 0 0, rfl, RowK.Own.nil _, (fun g e => by cases e), LW.out.trans (o5.below (fun j e => by omega) LW.out.size)⟩
  · have e1 : ((no : Int) != (n : Int)) = false := by simpa using h1
    clear h1 hb hn6 hno6
    go_enter Tryd.func9, Tryd.ntmps9
    have d0 := Cells.new w #[.int .u8 q.x.p, .int .u32 q.x.si, .int .u16 q.x.sp, .int .u32 q.x.di, .int .u16 q.x.dp, .int .u32 q.di, .int .u16 q.dp, .bool q.src, .int .i64 q.st, .slice A n c] 36
    replace d0 := Cells.below (fresh_below (w.alloc (.cells #[.int .u8 q.x.p, .int .u32 q.x.si, .int .u16 q.x.sp, .int .u32 q.x.di, .int .u16 q.x.dp, .int .u32 q.di, .int .u16 q.dp, .bool q.src, .int .i64 q.st, .slice A n c] 36)) (.cells #[.int .u8 0, .int .u32 0, .int .u16 0, .int .u32 0, .int .u16 0, .int .u8 0, .int .u32 0, .int .u16 0, .int .u32 0, .int .u16 0, .int .i64 0, .int .i64 0, .slice none 0 0] 51)) d0
    have d1 := Cells.new (w.alloc (.cells #[.int .u8 q.x.p, .int .u32 q.x.si, .int .u16 q.x.sp, .int .u32 q.x.di, .int .u16 q.x.dp, .int .u32 q.di, .int .u16 q.dp, .bool q.src, .int .i64 q.st, .slice A n c] 36)) #[.int .u8 0, .int .u32 0, .int .u16 0, .int .u32 0, .int .u16 0, .int .u8 0, .int .u32 0, .int .u16 0, .int .u32 0, .int .u16 0, .int .i64 0, .int .i64 0, .slice none 0 0] 51
    have l0 : Below w.heap.size w ((w.alloc (.cells #[.int .u8 q.x.p, .int .u32 q.x.si, .int .u16 q.x.sp, .int .u32 q.x.di, .int .u16 q.x.dp, .int .u32 q.di, .int .u16 q.dp, .bool q.src, .int .i64 q.st, .slice A n c] 36)).alloc (.cells #[.int .u8 0, .int .u32 0, .int .u16 0, .int .u32 0, .int .u16 0, .int .u8 0, .int .u32 0, .int .u16 0, .int .u32 0, .int .u16 0, .int .i64 0, .int .i64 0, .slice none 0 0] 51)) := (bstep (fresh_below _ _) (fresh_below _ _))
    simp only [World.size_alloc] at d1
    have L0 := hide l0; have D0 := hide d0; have D1 := hide d1
    clear l0 d0 d1
    go_upto_region 1 with fail
    have l0 := L0.out; have d0 := D0.out; have d1 := D1.out
    clear L0 D0 D1
    generalize ((w.alloc (.cells #[.int .u8 q.x.p, .int .u32 q.x.si, .int .u16 q.x.sp, .int .u32 q.x.di, .int .u16 q.x.dp, .int .u32 q.di, .int .u16 q.dp, .bool q.src, .int .i64 q.st, .slice A n c] 36)).alloc (.cells #[.int .u8 0, .int .u32 0, .int .u16 0, .int .u32 0, .int .u16 0, .int .u8 0, .int .u32 0, .int .u16 0, .int .u32 0, .int .u16 0, .int .i64 0, .int .i64 0, .slice none 0 0] 51)) = w1 at *
    have qd0_0 : ∀ W', Below w1.heap.size w1 W' → World.cell? W' ⟨w.heap.size, 0, none⟩ = some (.int .u8 q.x.p) := fun W' h => Cells.at_ (Cells.below h d0) 0
    have qd0_1 : ∀ W', Below w1.heap.size w1 W' → World.cell? W' ⟨w.heap.size, 1, none⟩ = some (.int .u32 q.x.si) := fun W' h => Cells.at_ (Cells.below h d0) 1
    have qd0_2 : ∀ W', Below w1.heap.size w1 W' → World.cell? W' ⟨w.heap.size, 2, none⟩ = some (.int .u16 q.x.sp) := fun W' h => Cells.at_ (Cells.below h d0) 2
    have qd0_3 : ∀ W', Below w1.heap.size w1 W' → World.cell? W' ⟨w.heap.size, 3, none⟩ = some (.int .u32 q.x.di) := fun W' h => Cells.at_ (Cells.below h d0) 3
    have qd0_4 : ∀ W', Below w1.heap.size w1 W' → World.cell? W' ⟨w.heap.size, 4, none⟩ = some (.int .u16 q.x.dp) := fun W' h => Cells.at_ (Cells.below h d0) 4
    have qd0_5 : ∀ W', Below w1.heap.size w1 W' → World.cell? W' ⟨w.heap.size, 5, none⟩ = some (.int .u32 q.di) := fun W' h => Cells.at_ (Cells.below h d0) 5
    have qd0_6 : ∀ W', Below w1.heap.size w1 W' → World.cell? W' ⟨w.heap.size, 6, none⟩ = some (.int .u16 q.dp) := fun W' h => Cells.at_ (Cells.below h d0) 6
    have qd0_7 : ∀ W', Below w1.heap.size w1 W' → World.cell? W' ⟨w.heap.size, 7, none⟩ = some (.bool q.src) := fun W' h => Cells.at_ (Cells.below h d0) 7
    have qd0_8 : ∀ W', Below w1.heap.size w1 W' → World.cell? W' ⟨w.heap.size, 8, none⟩ = some (.int .i64 q.st) := fun W' h => Cells.at_ (Cells.below h d0) 8
    have qd0_9 : ∀ W', Below w1.heap.size w1 W' → World.cell? W' ⟨w.heap.size, 9, none⟩ = some (.slice A n c) := fun W' h => Cells.at_ (Cells.below h d0) 9
    have qd1_0 : ∀ W', Below w1.heap.size w1 W' → World.cell? W' ⟨w.heap.size + 1, 0, none⟩ = some (.int .u8 0) := fun W' h => Cells.at_ (Cells.below h d1) 0
    have qd1_1 : ∀ W', Below w1.heap.size w1 W' → World.cell? W' ⟨w.heap.size + 1, 1, none⟩ = some (.int .u32 0) := fun W' h => Cells.at_ (Cells.below h d1) 1
    have qd1_2 : ∀ W', Below w1.heap.size w1 W' → World.cell? W' ⟨w.heap.size + 1, 2, none⟩ = some (.int .u16 0) := fun W' h => Cells.at_ (Cells.below h d1) 2
    have qd1_3 : ∀ W', Below w1.heap.size w1 W' → World.cell? W' ⟨w.heap.size + 1, 3, none⟩ = some (.int .u32 0) := fun W' h => Cells.at_ (Cells.below h d1) 3
    have qd1_4 : ∀ W', Below w1.heap.size w1 W' → World.cell? W' ⟨w.heap.size + 1, 4, none⟩ = some (.int .u16 0) := fun W' h => Cells.at_ (Cells.below h d1) 4
    have qd1_5 : ∀ W', Below w1.heap.size w1 W' → World.cell? W' ⟨w.heap.size + 1, 5, none⟩ = some (.int .u8 0) := fun W' h => Cells.at_ (Cells.below h d1) 5
    have qd1_6 : ∀ W', Below w1.heap.size w1 W' → World.cell? W' ⟨w.heap.size + 1, 6, none⟩ = some (.int .u32 0) := fun W' h => Cells.at_ (Cells.below h d1) 6
    have qd1_7 : ∀ W', Below w1.heap.size w1 W' → World.cell? W' ⟨w.heap.size + 1, 7, none⟩ = some (.int .u16 0) := fun W' h => Cells.at_ (Cells.below h d1) 7
    have qd1_8 : ∀ W', Below w1.heap.size w1 W' → World.cell? W' ⟨w.heap.size + 1, 8, none⟩ = some (.int .u32 0) := fun W' h => Cells.at_ (Cells.below h d1) 8
    have qd1_9 : ∀ W', Below w1.heap.size w1 W' → World.cell? W' ⟨w.heap.size + 1, 9, none⟩ = some (.int .u16 0) := fun W' h => Cells.at_ (Cells.below h d1) 9
    have qd1_10 : ∀ W', Below w1.heap.size w1 W' → World.cell? W' ⟨w.heap.size + 1, 10, none⟩ = some (.int .i64 0) := fun W' h => Cells.at_ (Cells.below h d1) 10
    have qd1_11 : ∀ W', Below w1.heap.size w1 W' → World.cell? W' ⟨w.heap.size + 1, 11, none⟩ = some (.int .i64 0) := fun W' h => Cells.at_ (Cells.below h d1) 11
    have qd1_12 : ∀ W', Below w1.heap.size w1 W' → World.cell? W' ⟨w.heap.size + 1, 12, none⟩ = some (.slice none 0 0) := fun W' h => Cells.at_ (Cells.below h d1) 12
    have bb : Below w1.heap.size w1 w1 := Below.refl _ _
    have L0 := hide l0; have D0 := hide d0; have D1 := hide d1
    clear l0 d0 d1
    have HZ := D1; have LW := L0
    go_upto_region 2 with fail
    refine wp_region_lit ?_
    refine wpList_plain rfl fun K hK => ?_; go_simp; refine hK _ _ ?_; clear hK K
    refine wpList_store_all rfl 51 (.tmp 6) (.tmp 24) rfl HZ.out (by rfl) (by rfl) (by kernel_rfl) rfl (by simp [Value.oneCell']) ?_
    intro W5 r5 o5 z5
    go_wp2_with fail
    (try simp only [Exit.inBlock, Exit.then])
    refine bodyPost_ret (res_cell_tmp Tryd.results9 r5 (by rfl) (by rfl) _ Tryd.underlying51 rfl (by kernel_rfl)) rfl ?_
    exact ⟨.slice none 0 0, rfl, RowK.Own.nil _, (fun g e => by cases e), LW.out.trans (o5.below (fun j e => by omega) LW.out.size)⟩
theorem d_Make (w : World) (q : Pln) (A Ao : Option Addr) (n c no co : Nat) (os : List Pt) (now : Int) (hn : n = q.ws.length) (hA : dwantK.Has w A q.ws) (hno : no = os.length) (hO : pointK.Has w Ao os) (hn6 : n ≤ 1000) (hno6 : no ≤ 1000) (hc : n ≤ c) (hco : no ≤ co) (hb : -9223372036854775808 ≤ now ∧ now ≤ 9223372036854775807) :
    Calls Tryd.prog 9 #[.agg #[.int .u8 q.x.p, .int .u32 q.x.si, .int .u16 q.x.sp, .int .u32 q.x.di, .int .u16 q.x.dp, .int .u32 q.di, .int .u16 q.dp, .bool q.src, .int .i64 q.st, .slice A n c], .slice Ao no co, .int .i64 now] w (Made dholdK w (makeV q os now)) := by
  by_cases h : no ≠ n ∨ now < 0 ∨ 1099511627776 < now
  · exact d_Make_no w q A Ao n c no co os now hn hno hn6 hno6 hb h
  · have e : no = n := by omega
    subst e
    cases hs : q.src with
    | false => exact d_Make_a w q A Ao no c co os now hn hA hno hO hn6 hc hco (by omega) (by omega) hs
    | true => exact d_Make_c w q A Ao no c co os now hn hA hno hO hn6 hc hco (by omega) (by omega) hs
end Go.Proofs.YtilfcikhipadpaaDoor
end

section
/- binds: Of. -/
set_option linter.unusedVariables false
set_option linter.unusedSimpArgs false
namespace Go.Proofs.YtilfcikhipadpaaDoor
open Go.RowKit Go.Lib
attribute [local go_sem] Oper.semAt_some

/-- what a first packet may become, or why it may not -/
def ofV (o ip b : Int) (l : List Rule) (x : Btw) (kd fg : Int) (ak : Bool) : Pln × Int :=
  if kd = 3 then (zeroP, 10)
  else if (routeV o ip b l x).2 ≠ 0 then (zeroP, (routeV o ip b l x).2)
  else if x.p = 1 ∧ ak = false then (zeroP, 10)
  else if firstV (flowV x.p) fg = true then ({ (routeV o ip b l x).1 with st := 1 }, 0) else (zeroP, 11)

set_option maxHeartbeats 8000000 in
set_option maxRecDepth 100000 in
theorem b_Of (w : World) (B : Nat) (o ip b : Int) (v : Value) (l : List Rule) (h : TS w B o ip b l v) (hl : l.length ≤ 1000) (hok : ∀ r ∈ l, r.Ok) (hip : 0 ≤ ip ∧ ip ≤ 4294967295) (hT : Lasts w) (x : Btw) (hx : x.Ok) (kd fg tl : Int) (ak : Bool) :
    Calls Tryd.prog 13 #[.pointer (some ⟨B, 0, none⟩), .agg #[.int .u8 x.p, .int .u32 x.si, .int .u16 x.sp, .int .u32 x.di, .int .u16 x.dp, .int .i64 kd, .int .u8 fg, .bool ak, .int .u8 tl]] w (Routed w (ofV o ip b l x kd fg ak)) := by
  have cr := fun W (hW : Below w.heap.size w W) => b_route W B o ip b v l (h.below hW) hl hok hip x hx
  have cf := fun W => tk_Flow W x.p
  have ct := fun W (hW : Below w.heap.size w W) => tk_First W (flowV x.p) fg (hT.below hW)
  unfold ofV
  obtain ⟨q, hq⟩ : ∃ q, q = (routeV o ip b l x).1 := ⟨_, rfl⟩
  obtain ⟨rs, hrs⟩ : ∃ rs, rs = (routeV o ip b l x).2 := ⟨_, rfl⟩
  have cr2 : ∀ W, Below w.heap.size w W → Calls Tryd.prog 23 #[.pointer (some ⟨B, 0, none⟩), .agg #[.int .u8 x.p, .int .u32 x.si, .int .u16 x.sp, .int .u32 x.di, .int .u16 x.dp]] W (fun e w' => ∃ v', e = .returned (.tuple #[.agg #[.int .u8 q.x.p, .int .u32 q.x.si, .int .u16 q.x.sp, .int .u32 q.x.di, .int .u16 q.x.dp, .int .u32 q.di, .int .u16 q.dp, .bool q.src, .int .i64 q.st, v'], .int .i64 rs]) ∧ wantK.Own w' v' q.ws ∧ (∀ g, v'.ownBlock = some g → W.heap.size ≤ g) ∧ Below W.heap.size W w') := fun W hW => by
    refine (cr W hW).mono ?_
    rintro e w' ⟨v', h1, h2, h3, h4⟩
    rw [← hq] at h1 h2
    rw [← hrs] at h1
    exact ⟨v', h1, h2, h3, h4⟩
  rw [← hq, ← hrs]
  obtain ⟨RV, hRV⟩ : ∃ RV, RV = (if kd = 3 then (zeroP, 10) else if rs ≠ 0 then (zeroP, rs) else if x.p = 1 ∧ ak = false then (zeroP, 10) else if firstV (flowV x.p) fg = true then ({ q with st := 1 }, 0) else (zeroP, 11) : Pln × Int) := ⟨_, rfl⟩
  rw [← hRV]
  generalize firstV (flowV x.p) fg = fv at *
  generalize flowV x.p = fl at *
  obtain ⟨s1, hs1⟩ : ∃ s1 : Int, s1 = (if fv = true then 1 else 0) := ⟨_, rfl⟩
  rw [← hs1] at ct
  have HS1 := hide hs1
  clear hs1
  have CR := hide cr2; have CF := hide cf; have CT := hide ct; have HRV := hide hRV
  clear hRV cr cr2 cf ct h hl hok hip hx hT hq hrs
  go_enter Tryd.func13, Tryd.ntmps13
  have d0 := Cells.new w #[.int .u8 x.p, .int .u32 x.si, .int .u16 x.sp, .int .u32 x.di, .int .u16 x.dp, .int .i64 kd, .int .u8 fg, .bool ak, .int .u8 tl] 62
  replace d0 := Cells.below (fresh_below (w.alloc (.cells #[.int .u8 x.p, .int .u32 x.si, .int .u16 x.sp, .int .u32 x.di, .int .u16 x.dp, .int .i64 kd, .int .u8 fg, .bool ak, .int .u8 tl] 62)) (.cells #[.int .u8 0, .int .u32 0, .int .u16 0, .int .u32 0, .int .u16 0, .int .u32 0, .int .u16 0, .bool false, .int .i64 0, .slice none 0 0] 31)) d0
  have d1 := Cells.new (w.alloc (.cells #[.int .u8 x.p, .int .u32 x.si, .int .u16 x.sp, .int .u32 x.di, .int .u16 x.dp, .int .i64 kd, .int .u8 fg, .bool ak, .int .u8 tl] 62)) #[.int .u8 0, .int .u32 0, .int .u16 0, .int .u32 0, .int .u16 0, .int .u32 0, .int .u16 0, .bool false, .int .i64 0, .slice none 0 0] 31
  have l0 : Below w.heap.size w ((w.alloc (.cells #[.int .u8 x.p, .int .u32 x.si, .int .u16 x.sp, .int .u32 x.di, .int .u16 x.dp, .int .i64 kd, .int .u8 fg, .bool ak, .int .u8 tl] 62)).alloc (.cells #[.int .u8 0, .int .u32 0, .int .u16 0, .int .u32 0, .int .u16 0, .int .u32 0, .int .u16 0, .bool false, .int .i64 0, .slice none 0 0] 31)) := (bstep (fresh_below _ _) (fresh_below _ _))
  simp only [World.size_alloc] at d1
  have L0 := hide l0; have D0 := hide d0; have D1 := hide d1
  clear l0 d0 d1
  go_upto_region 1 with fail
  have l0 := L0.out; have d0 := D0.out; have d1 := D1.out
  clear L0 D0 D1
  generalize ((w.alloc (.cells #[.int .u8 x.p, .int .u32 x.si, .int .u16 x.sp, .int .u32 x.di, .int .u16 x.dp, .int .i64 kd, .int .u8 fg, .bool ak, .int .u8 tl] 62)).alloc (.cells #[.int .u8 0, .int .u32 0, .int .u16 0, .int .u32 0, .int .u16 0, .int .u32 0, .int .u16 0, .bool false, .int .i64 0, .slice none 0 0] 31)) = w1 at *
  have qd0_0 : ∀ W', Below w1.heap.size w1 W' → World.cell? W' ⟨w.heap.size, 0, none⟩ = some (.int .u8 x.p) := fun W' h => Cells.at_ (Cells.below h d0) 0
  have qd0_1 : ∀ W', Below w1.heap.size w1 W' → World.cell? W' ⟨w.heap.size, 1, none⟩ = some (.int .u32 x.si) := fun W' h => Cells.at_ (Cells.below h d0) 1
  have qd0_2 : ∀ W', Below w1.heap.size w1 W' → World.cell? W' ⟨w.heap.size, 2, none⟩ = some (.int .u16 x.sp) := fun W' h => Cells.at_ (Cells.below h d0) 2
  have qd0_3 : ∀ W', Below w1.heap.size w1 W' → World.cell? W' ⟨w.heap.size, 3, none⟩ = some (.int .u32 x.di) := fun W' h => Cells.at_ (Cells.below h d0) 3
  have qd0_4 : ∀ W', Below w1.heap.size w1 W' → World.cell? W' ⟨w.heap.size, 4, none⟩ = some (.int .u16 x.dp) := fun W' h => Cells.at_ (Cells.below h d0) 4
  have qd0_5 : ∀ W', Below w1.heap.size w1 W' → World.cell? W' ⟨w.heap.size, 5, none⟩ = some (.int .i64 kd) := fun W' h => Cells.at_ (Cells.below h d0) 5
  have qd0_6 : ∀ W', Below w1.heap.size w1 W' → World.cell? W' ⟨w.heap.size, 6, none⟩ = some (.int .u8 fg) := fun W' h => Cells.at_ (Cells.below h d0) 6
  have qd0_7 : ∀ W', Below w1.heap.size w1 W' → World.cell? W' ⟨w.heap.size, 7, none⟩ = some (.bool ak) := fun W' h => Cells.at_ (Cells.below h d0) 7
  have qd0_8 : ∀ W', Below w1.heap.size w1 W' → World.cell? W' ⟨w.heap.size, 8, none⟩ = some (.int .u8 tl) := fun W' h => Cells.at_ (Cells.below h d0) 8
  have qd1_0 : ∀ W', Below w1.heap.size w1 W' → World.cell? W' ⟨w.heap.size + 1, 0, none⟩ = some (.int .u8 0) := fun W' h => Cells.at_ (Cells.below h d1) 0
  have qd1_1 : ∀ W', Below w1.heap.size w1 W' → World.cell? W' ⟨w.heap.size + 1, 1, none⟩ = some (.int .u32 0) := fun W' h => Cells.at_ (Cells.below h d1) 1
  have qd1_2 : ∀ W', Below w1.heap.size w1 W' → World.cell? W' ⟨w.heap.size + 1, 2, none⟩ = some (.int .u16 0) := fun W' h => Cells.at_ (Cells.below h d1) 2
  have qd1_3 : ∀ W', Below w1.heap.size w1 W' → World.cell? W' ⟨w.heap.size + 1, 3, none⟩ = some (.int .u32 0) := fun W' h => Cells.at_ (Cells.below h d1) 3
  have qd1_4 : ∀ W', Below w1.heap.size w1 W' → World.cell? W' ⟨w.heap.size + 1, 4, none⟩ = some (.int .u16 0) := fun W' h => Cells.at_ (Cells.below h d1) 4
  have qd1_5 : ∀ W', Below w1.heap.size w1 W' → World.cell? W' ⟨w.heap.size + 1, 5, none⟩ = some (.int .u32 0) := fun W' h => Cells.at_ (Cells.below h d1) 5
  have qd1_6 : ∀ W', Below w1.heap.size w1 W' → World.cell? W' ⟨w.heap.size + 1, 6, none⟩ = some (.int .u16 0) := fun W' h => Cells.at_ (Cells.below h d1) 6
  have qd1_7 : ∀ W', Below w1.heap.size w1 W' → World.cell? W' ⟨w.heap.size + 1, 7, none⟩ = some (.bool false) := fun W' h => Cells.at_ (Cells.below h d1) 7
  have qd1_8 : ∀ W', Below w1.heap.size w1 W' → World.cell? W' ⟨w.heap.size + 1, 8, none⟩ = some (.int .i64 0) := fun W' h => Cells.at_ (Cells.below h d1) 8
  have qd1_9 : ∀ W', Below w1.heap.size w1 W' → World.cell? W' ⟨w.heap.size + 1, 9, none⟩ = some (.slice none 0 0) := fun W' h => Cells.at_ (Cells.below h d1) 9
  have bb : Below w1.heap.size w1 w1 := Below.refl _ _
  have L0 := hide l0; have D0 := hide d0; have D1 := hide d1
  clear l0 d0 d1
  have fz : ∀ W' i, Below w1.heap.size w1 W' → World.frozen? W' ⟨w.heap.size + 1, i, none⟩ = false := fun W' i h => Cells.free (Cells.below h D1.out) i
  by_cases hk : kd = 3
  · have k3 : (kd == 3) = true := by simp [hk]
    have er : RV = (zeroP, 10) := by rw [HRV.out, if_pos hk]
    clear HRV hk
    subst er
    go_wp2_with fail
    have d1 := D1.out; have l2 := L0.out
    clear qd0_0 qd0_1 qd0_2 qd0_3 qd0_4 qd0_5 qd0_6 qd0_7 qd0_8 qd1_0 qd1_1 qd1_2 qd1_3 qd1_4 qd1_5 qd1_6 qd1_7 qd1_8 qd1_9 fz bb
    have r5 := (Cells.put10 d1 (.int .u8 0) (.int .u32 0) (.int .u16 0) (.int .u32 0) (.int .u16 0) (.int .u32 0) (.int .u16 0) (.bool false) (.int .i64 0) (.slice none 0 0))
    have b5 := (Below.put10 l2 (b := w.heap.size + 1) (by first | exact Nat.le_refl _ | omega) (.int .u8 0) (.int .u32 0) (.int .u16 0) (.int .u32 0) (.int .u16 0) (.int .u32 0) (.int .u16 0) (.bool false) (.int .i64 0) (.slice none 0 0))
    have HR5 := hide r5; have HB5 := hide b5
    clear r5 b5 d1
    generalize ((((((((((w1.setCell ⟨w.heap.size + 1, 0, none⟩ (.int .u8 0)).setCell ⟨w.heap.size + 1, 1, none⟩ (.int .u32 0)).setCell ⟨w.heap.size + 1, 2, none⟩ (.int .u16 0)).setCell ⟨w.heap.size + 1, 3, none⟩ (.int .u32 0)).setCell ⟨w.heap.size + 1, 4, none⟩ (.int .u16 0)).setCell ⟨w.heap.size + 1, 5, none⟩ (.int .u32 0)).setCell ⟨w.heap.size + 1, 6, none⟩ (.int .u16 0)).setCell ⟨w.heap.size + 1, 7, none⟩ (.bool false)).setCell ⟨w.heap.size + 1, 8, none⟩ (.int .i64 0)).setCell ⟨w.heap.size + 1, 9, none⟩ (.slice none 0 0)) = W5 at *
    have r5 := HR5.out; have b5 := HB5.out
    clear HR5 HB5
    have xr5_0 : W5.cell? ⟨w.heap.size + 1, 0, none⟩ = some (.int .u8 0) := r5.at_ 0
    have xr5_1 : W5.cell? ⟨w.heap.size + 1, 1, none⟩ = some (.int .u32 0) := r5.at_ 1
    have xr5_2 : W5.cell? ⟨w.heap.size + 1, 2, none⟩ = some (.int .u16 0) := r5.at_ 2
    have xr5_3 : W5.cell? ⟨w.heap.size + 1, 3, none⟩ = some (.int .u32 0) := r5.at_ 3
    have xr5_4 : W5.cell? ⟨w.heap.size + 1, 4, none⟩ = some (.int .u16 0) := r5.at_ 4
    have xr5_5 : W5.cell? ⟨w.heap.size + 1, 5, none⟩ = some (.int .u32 0) := r5.at_ 5
    have xr5_6 : W5.cell? ⟨w.heap.size + 1, 6, none⟩ = some (.int .u16 0) := r5.at_ 6
    have xr5_7 : W5.cell? ⟨w.heap.size + 1, 7, none⟩ = some (.bool false) := r5.at_ 7
    have xr5_8 : W5.cell? ⟨w.heap.size + 1, 8, none⟩ = some (.int .i64 0) := r5.at_ 8
    have xr5_9 : W5.cell? ⟨w.heap.size + 1, 9, none⟩ = some (.slice none 0 0) := r5.at_ 9
    (try simp only [Exit.inBlock, Exit.then]); refine bodyPost_ret (by simp [results, Tryd.results13, go_sem, *]; try rfl) rfl ?_
    exact ⟨_, rfl, RowK.Own.nil _, (fun g e => by cases e), b5⟩
  have k3 : (kd == 3) = false := by simp [hk]
  have HK := hide hk
  clear hk
  go_upto_region 4 with (go_at_call 23; (refine (CR.out _ L0.out).mono ?_); rintro e2 w2 ⟨v', rfl, ov, hv, b2⟩; obtain ⟨A0, c0, rfl, hc0⟩ := ov.slice; clear hc0)
  have nn := Cells.new w2 #[.int .u8 q.x.p, .int .u32 q.x.si, .int .u16 q.x.sp, .int .u32 q.x.di, .int .u16 q.x.dp, .int .u32 q.di, .int .u16 q.dp, .bool q.src, .int .i64 q.st, .slice A0 q.ws.length c0] 31
  have bn : Below w1.heap.size w1 (w2.alloc (.cells #[.int .u8 q.x.p, .int .u32 q.x.si, .int .u16 q.x.sp, .int .u32 q.x.di, .int .u16 q.x.dp, .int .u32 q.di, .int .u16 q.dp, .bool q.src, .int .i64 q.st, .slice A0 q.ws.length c0] 31)) := bstep b2 (fresh_below _ _)
  have ho := RowK.Own.below ov (fresh_below w2 (.cells #[.int .u8 q.x.p, .int .u32 q.x.si, .int .u16 q.x.sp, .int .u32 q.x.di, .int .u16 q.x.dp, .int .u32 q.di, .int .u16 q.dp, .bool q.src, .int .i64 q.st, .slice A0 q.ws.length c0] 31))
  have hg6 : w.heap.size + 1 < w2.heap.size := Nat.lt_of_lt_of_le (Cells.lt D1.out) b2.size
  have hv6 : ∀ g, (Value.slice A0 q.ws.length c0).ownBlock = some g → g < w2.heap.size := fun g hg => ov.row hg
  have hw1 : w.heap.size + 1 < w1.heap.size := Cells.lt D1.out
  have hv1 : ∀ g, (Value.slice A0 q.ws.length c0).ownBlock = some g → w.heap.size + 1 < g := fun g hg => Nat.lt_of_lt_of_le hw1 (hv g hg)
  replace D0 := hide (Cells.below bn D0.out); replace D1 := hide (Cells.below bn D1.out); replace L0 := hide (bstep L0.out bn)
  clear qd0_0 qd0_1 qd0_2 qd0_3 qd0_4 qd0_5 qd0_6 qd0_7 qd0_8 qd1_0 qd1_1 qd1_2 qd1_3 qd1_4 qd1_5 qd1_6 qd1_7 qd1_8 qd1_9 fz bb b2 ov hv bn hw1
  generalize w2.heap.size = g6 at nn hg6 hv6 ⊢
  generalize (w2.alloc (.cells #[.int .u8 q.x.p, .int .u32 q.x.si, .int .u16 q.x.sp, .int .u32 q.x.di, .int .u16 q.x.dp, .int .u32 q.di, .int .u16 q.dp, .bool q.src, .int .i64 q.st, .slice A0 q.ws.length c0] 31)) = w5 at *
  have D6 := hide nn; have OV := hide ho; have H6 := hide hv6; have HV := hide hv1
  have d0 := D0.out; have d1 := D1.out; have d6 := D6.out
  have qd0_0 : ∀ W', Below w5.heap.size w5 W' → World.cell? W' ⟨w.heap.size, 0, none⟩ = some (.int .u8 x.p) := fun W' h => Cells.at_ (Cells.below h d0) 0
  have qd0_1 : ∀ W', Below w5.heap.size w5 W' → World.cell? W' ⟨w.heap.size, 1, none⟩ = some (.int .u32 x.si) := fun W' h => Cells.at_ (Cells.below h d0) 1
  have qd0_2 : ∀ W', Below w5.heap.size w5 W' → World.cell? W' ⟨w.heap.size, 2, none⟩ = some (.int .u16 x.sp) := fun W' h => Cells.at_ (Cells.below h d0) 2
  have qd0_3 : ∀ W', Below w5.heap.size w5 W' → World.cell? W' ⟨w.heap.size, 3, none⟩ = some (.int .u32 x.di) := fun W' h => Cells.at_ (Cells.below h d0) 3
  have qd0_4 : ∀ W', Below w5.heap.size w5 W' → World.cell? W' ⟨w.heap.size, 4, none⟩ = some (.int .u16 x.dp) := fun W' h => Cells.at_ (Cells.below h d0) 4
  have qd0_5 : ∀ W', Below w5.heap.size w5 W' → World.cell? W' ⟨w.heap.size, 5, none⟩ = some (.int .i64 kd) := fun W' h => Cells.at_ (Cells.below h d0) 5
  have qd0_6 : ∀ W', Below w5.heap.size w5 W' → World.cell? W' ⟨w.heap.size, 6, none⟩ = some (.int .u8 fg) := fun W' h => Cells.at_ (Cells.below h d0) 6
  have qd0_7 : ∀ W', Below w5.heap.size w5 W' → World.cell? W' ⟨w.heap.size, 7, none⟩ = some (.bool ak) := fun W' h => Cells.at_ (Cells.below h d0) 7
  have qd0_8 : ∀ W', Below w5.heap.size w5 W' → World.cell? W' ⟨w.heap.size, 8, none⟩ = some (.int .u8 tl) := fun W' h => Cells.at_ (Cells.below h d0) 8
  have qd1_0 : ∀ W', Below w5.heap.size w5 W' → World.cell? W' ⟨w.heap.size + 1, 0, none⟩ = some (.int .u8 0) := fun W' h => Cells.at_ (Cells.below h d1) 0
  have qd1_1 : ∀ W', Below w5.heap.size w5 W' → World.cell? W' ⟨w.heap.size + 1, 1, none⟩ = some (.int .u32 0) := fun W' h => Cells.at_ (Cells.below h d1) 1
  have qd1_2 : ∀ W', Below w5.heap.size w5 W' → World.cell? W' ⟨w.heap.size + 1, 2, none⟩ = some (.int .u16 0) := fun W' h => Cells.at_ (Cells.below h d1) 2
  have qd1_3 : ∀ W', Below w5.heap.size w5 W' → World.cell? W' ⟨w.heap.size + 1, 3, none⟩ = some (.int .u32 0) := fun W' h => Cells.at_ (Cells.below h d1) 3
  have qd1_4 : ∀ W', Below w5.heap.size w5 W' → World.cell? W' ⟨w.heap.size + 1, 4, none⟩ = some (.int .u16 0) := fun W' h => Cells.at_ (Cells.below h d1) 4
  have qd1_5 : ∀ W', Below w5.heap.size w5 W' → World.cell? W' ⟨w.heap.size + 1, 5, none⟩ = some (.int .u32 0) := fun W' h => Cells.at_ (Cells.below h d1) 5
  have qd1_6 : ∀ W', Below w5.heap.size w5 W' → World.cell? W' ⟨w.heap.size + 1, 6, none⟩ = some (.int .u16 0) := fun W' h => Cells.at_ (Cells.below h d1) 6
  have qd1_7 : ∀ W', Below w5.heap.size w5 W' → World.cell? W' ⟨w.heap.size + 1, 7, none⟩ = some (.bool false) := fun W' h => Cells.at_ (Cells.below h d1) 7
  have qd1_8 : ∀ W', Below w5.heap.size w5 W' → World.cell? W' ⟨w.heap.size + 1, 8, none⟩ = some (.int .i64 0) := fun W' h => Cells.at_ (Cells.below h d1) 8
  have qd1_9 : ∀ W', Below w5.heap.size w5 W' → World.cell? W' ⟨w.heap.size + 1, 9, none⟩ = some (.slice none 0 0) := fun W' h => Cells.at_ (Cells.below h d1) 9
  have qd6_0 : ∀ W', Below w5.heap.size w5 W' → World.cell? W' ⟨g6, 0, none⟩ = some (.int .u8 q.x.p) := fun W' h => Cells.at_ (Cells.below h d6) 0
  have qd6_1 : ∀ W', Below w5.heap.size w5 W' → World.cell? W' ⟨g6, 1, none⟩ = some (.int .u32 q.x.si) := fun W' h => Cells.at_ (Cells.below h d6) 1
  have qd6_2 : ∀ W', Below w5.heap.size w5 W' → World.cell? W' ⟨g6, 2, none⟩ = some (.int .u16 q.x.sp) := fun W' h => Cells.at_ (Cells.below h d6) 2
  have qd6_3 : ∀ W', Below w5.heap.size w5 W' → World.cell? W' ⟨g6, 3, none⟩ = some (.int .u32 q.x.di) := fun W' h => Cells.at_ (Cells.below h d6) 3
  have qd6_4 : ∀ W', Below w5.heap.size w5 W' → World.cell? W' ⟨g6, 4, none⟩ = some (.int .u16 q.x.dp) := fun W' h => Cells.at_ (Cells.below h d6) 4
  have qd6_5 : ∀ W', Below w5.heap.size w5 W' → World.cell? W' ⟨g6, 5, none⟩ = some (.int .u32 q.di) := fun W' h => Cells.at_ (Cells.below h d6) 5
  have qd6_6 : ∀ W', Below w5.heap.size w5 W' → World.cell? W' ⟨g6, 6, none⟩ = some (.int .u16 q.dp) := fun W' h => Cells.at_ (Cells.below h d6) 6
  have qd6_7 : ∀ W', Below w5.heap.size w5 W' → World.cell? W' ⟨g6, 7, none⟩ = some (.bool q.src) := fun W' h => Cells.at_ (Cells.below h d6) 7
  have qd6_8 : ∀ W', Below w5.heap.size w5 W' → World.cell? W' ⟨g6, 8, none⟩ = some (.int .i64 q.st) := fun W' h => Cells.at_ (Cells.below h d6) 8
  have qd6_9 : ∀ W', Below w5.heap.size w5 W' → World.cell? W' ⟨g6, 9, none⟩ = some (.slice A0 q.ws.length c0) := fun W' h => Cells.at_ (Cells.below h d6) 9
  have fz : ∀ W' i, Below w5.heap.size w5 W' → World.frozen? W' ⟨w.heap.size + 1, i, none⟩ = false := fun W' i h => Cells.free (Cells.below h D1.out) i
  have fz6 : ∀ W' i, Below w5.heap.size w5 W' → World.frozen? W' ⟨g6, i, none⟩ = false := fun W' i h => Cells.free (Cells.below h D6.out) i
  have bb : Below w5.heap.size w5 w5 := Below.refl _ _
  clear d0 d1 d6 nn ho hv6 hv1
  by_cases hr : rs = 0
  · have k4 : (rs != 0) = false := by simp [hr]
    have HR := hide hr
    clear hr
    by_cases hp : x.p = 1 ∧ ak = false
    · obtain ⟨hp1, rfl⟩ := hp
      have k5 : (x.p == 1) = true := by simp [hp1]
      have er : RV = (zeroP, 10) := by rw [HRV.out, if_neg HK.out, if_neg (by simp [HR.out]), if_pos ⟨hp1, rfl⟩]
      clear HRV hp1
      subst er
      go_wp2_with fail
      have d1 := Cells.below bb D1.out
      have l2 := bstep L0.out bb
      clear qd0_0 qd0_1 qd0_2 qd0_3 qd0_4 qd0_5 qd0_6 qd0_7 qd0_8 qd1_0 qd1_1 qd1_2 qd1_3 qd1_4 qd1_5 qd1_6 qd1_7 qd1_8 qd1_9 qd6_0 qd6_1 qd6_2 qd6_3 qd6_4 qd6_5 qd6_6 qd6_7 qd6_8 qd6_9 fz fz6 bb
      have r5 := (Cells.put10 d1 (.int .u8 0) (.int .u32 0) (.int .u16 0) (.int .u32 0) (.int .u16 0) (.int .u32 0) (.int .u16 0) (.bool false) (.int .i64 0) (.slice none 0 0))
      have b5 := (Below.put10 l2 (b := w.heap.size + 1) (by first | exact Nat.le_refl _ | omega) (.int .u8 0) (.int .u32 0) (.int .u16 0) (.int .u32 0) (.int .u16 0) (.int .u32 0) (.int .u16 0) (.bool false) (.int .i64 0) (.slice none 0 0))
      have HR5 := hide r5; have HB5 := hide b5
      clear r5 b5 d1
      generalize ((((((((((w5.setCell ⟨w.heap.size + 1, 0, none⟩ (.int .u8 0)).setCell ⟨w.heap.size + 1, 1, none⟩ (.int .u32 0)).setCell ⟨w.heap.size + 1, 2, none⟩ (.int .u16 0)).setCell ⟨w.heap.size + 1, 3, none⟩ (.int .u32 0)).setCell ⟨w.heap.size + 1, 4, none⟩ (.int .u16 0)).setCell ⟨w.heap.size + 1, 5, none⟩ (.int .u32 0)).setCell ⟨w.heap.size + 1, 6, none⟩ (.int .u16 0)).setCell ⟨w.heap.size + 1, 7, none⟩ (.bool false)).setCell ⟨w.heap.size + 1, 8, none⟩ (.int .i64 0)).setCell ⟨w.heap.size + 1, 9, none⟩ (.slice none 0 0)) = W5 at *
      have r5 := HR5.out; have b5 := HB5.out
      clear HR5 HB5
      have xr5_0 : W5.cell? ⟨w.heap.size + 1, 0, none⟩ = some (.int .u8 0) := r5.at_ 0
      have xr5_1 : W5.cell? ⟨w.heap.size + 1, 1, none⟩ = some (.int .u32 0) := r5.at_ 1
      have xr5_2 : W5.cell? ⟨w.heap.size + 1, 2, none⟩ = some (.int .u16 0) := r5.at_ 2
      have xr5_3 : W5.cell? ⟨w.heap.size + 1, 3, none⟩ = some (.int .u32 0) := r5.at_ 3
      have xr5_4 : W5.cell? ⟨w.heap.size + 1, 4, none⟩ = some (.int .u16 0) := r5.at_ 4
      have xr5_5 : W5.cell? ⟨w.heap.size + 1, 5, none⟩ = some (.int .u32 0) := r5.at_ 5
      have xr5_6 : W5.cell? ⟨w.heap.size + 1, 6, none⟩ = some (.int .u16 0) := r5.at_ 6
      have xr5_7 : W5.cell? ⟨w.heap.size + 1, 7, none⟩ = some (.bool false) := r5.at_ 7
      have xr5_8 : W5.cell? ⟨w.heap.size + 1, 8, none⟩ = some (.int .i64 0) := r5.at_ 8
      have xr5_9 : W5.cell? ⟨w.heap.size + 1, 9, none⟩ = some (.slice none 0 0) := r5.at_ 9
      (try simp only [Exit.inBlock, Exit.then]); refine bodyPost_ret (by simp [results, Tryd.results13, go_sem, *]; try rfl) rfl ?_
      exact ⟨_, rfl, RowK.Own.nil _, (fun g e => by cases e), b5⟩
    · have HP := hide hp
      have hcase : (x.p == 1) = false ∨ ((x.p == 1) = true ∧ ak = true) := by
        by_cases h1 : x.p = 1
        · exact Or.inr ⟨by simp [h1], by cases ak; exact absurd ⟨h1, rfl⟩ hp; rfl⟩
        · exact Or.inl (by simp [h1])
      clear hp
      rcases hcase with k5 | ⟨k5, rfl⟩
      · go_upto_region 8 with fail
        focus
          refine wp_region_J [] (fun W => Below w5.heap.size w5 W) (by kernel_rfl) (bb.drew) (fun hS0 => ?_)
          refine wpAnyJ_take (i := 0) (v := ?v0_1) rfl (by kernel_rfl) (by kernel_rfl) (by kernel_rfl) (by kernel_rfl) (fun _ _ _ h => h) (Or.inl (And.intro (by kernel_rfl) ?q0_1)) hS0 ?r0_1; (case q0_1 => (intro w hx; (try dsimp only); (try go_simp); (try with_reducible rfl)))
          (try simp only [Act.put, List.setIfInBounds_toArray, List.set_cons_zero, List.set_cons_succ, List.getElem_toArray, List.getElem_cons_succ, List.getElem_cons_zero])
          refine wpAnyJ_take (i := 1) (v := ?v1_2) rfl (by kernel_rfl) (by kernel_rfl) (by kernel_rfl) (by kernel_rfl) (fun _ _ _ h => h) (Or.inl (And.intro (by kernel_rfl) ?q1_2)) hS0 ?r1_2; (case q1_2 => (intro w hx; (try dsimp only); (try go_simp); (try with_reducible rfl)))
          (try simp only [Act.put, List.setIfInBounds_toArray, List.set_cons_zero, List.set_cons_succ, List.getElem_toArray, List.getElem_cons_succ, List.getElem_cons_zero])
          refine wpAnyJ_take (i := 2) (v := ?v2_3) rfl (by kernel_rfl) (by kernel_rfl) (by kernel_rfl) (by kernel_rfl) (fun _ _ _ h => h) (Or.inl (And.intro (by kernel_rfl) ?q2_3)) hS0 ?r2_3; (case q2_3 => (intro w hx; (try dsimp only); (try go_simp); (try with_reducible rfl)))
          (try simp only [Act.put, List.setIfInBounds_toArray, List.set_cons_zero, List.set_cons_succ, List.getElem_toArray, List.getElem_cons_succ, List.getElem_cons_zero])
          refine wpAnyJ_take (i := 4) (v := ?v4_4) rfl (by kernel_rfl) (by kernel_rfl) (by kernel_rfl) (by kernel_rfl) (fun _ _ _ h => h) (Or.inl (And.intro (by kernel_rfl) ?q4_4)) hS0 ?r4_4; (case q4_4 => (intro w hx; (try dsimp only); (try go_simp); (try with_reducible rfl)))
          (try simp only [Act.put, List.setIfInBounds_toArray, List.set_cons_zero, List.set_cons_succ, List.getElem_toArray, List.getElem_cons_succ, List.getElem_cons_zero])
          refine wpAnyJ_take (i := 5) (v := ?v5_5) rfl (by kernel_rfl) (by kernel_rfl) (by kernel_rfl) (by kernel_rfl) (fun _ _ _ h => h) (Or.inl (And.intro (by kernel_rfl) ?q5_5)) hS0 ?r5_5; (case q5_5 => (intro w hx; (try dsimp only); (try go_simp); (try with_reducible rfl)))
          (try simp only [Act.put, List.setIfInBounds_toArray, List.set_cons_zero, List.set_cons_succ, List.getElem_toArray, List.getElem_cons_succ, List.getElem_cons_zero])
          refine wpAnyJ_ready (rs := [3]) (by kernel_rfl) (by simp) ?_
          refine (AllReadyJ.cons rfl (fun K hK => ?_) AllReadyJ.nil)
          rw [if_pos (by kernel_rfl)]
          (try simp only [List.getElem_toArray, List.getElem_cons_succ, List.getElem_cons_zero])
          (focus go_simp)
          (focus ((with_reducible refine (CF.out _).mono ?_); rintro e wq ⟨rfl, bq⟩))
          (focus (try go_wp2_with fail))
          refine hK.out _ _ ?hs (fun hS0 => ?_)
          case hs => (first | with_reducible exact hS0 | exact bstep hS0 bq)
          clear hK K
          (try simp only [Act.put, List.setIfInBounds_toArray, List.set_cons_zero, List.set_cons_succ, List.getElem_toArray, List.getElem_cons_succ, List.getElem_cons_zero])
          refine wpAnyJ_ready (rs := [6]) (by kernel_rfl) (by simp) ?_
          refine (AllReadyJ.cons rfl (fun K hK => ?_) AllReadyJ.nil)
          rw [if_pos (by kernel_rfl)]
          (try simp only [List.getElem_toArray, List.getElem_cons_succ, List.getElem_cons_zero])
          (focus go_simp)
          (focus ((with_reducible refine (CT.out _ (bstep L0.out hS0)).mono ?_); rintro e wq ⟨rfl, bq⟩))
          (focus (try go_wp2_with fail))
          refine hK.out _ _ ?hs (fun hS0 => ?_)
          case hs => (first | with_reducible exact hS0 | exact bstep hS0 bq)
          clear hK K
          (try simp only [Act.put, List.setIfInBounds_toArray, List.set_cons_zero, List.set_cons_succ, List.getElem_toArray, List.getElem_cons_succ, List.getElem_cons_zero])
          refine wpAnyJ_take (i := 7) (v := ?v7_6) rfl (by kernel_rfl) (by kernel_rfl) (by kernel_rfl) (by kernel_rfl) (fun _ _ _ h => h) (Or.inl (And.intro (by kernel_rfl) ?q7_6)) hS0 ?r7_6; (case q7_6 => (intro w hx; (try dsimp only); (try go_simp); (try with_reducible rfl)))
          (try simp only [Act.put, List.setIfInBounds_toArray, List.set_cons_zero, List.set_cons_succ, List.getElem_toArray, List.getElem_cons_succ, List.getElem_cons_zero])
          refine wpAnyJ_take (i := 8) (v := ?v8_7) rfl (by kernel_rfl) (by kernel_rfl) (by kernel_rfl) (by kernel_rfl) (fun _ _ _ h => h) (Or.inl (And.intro (by kernel_rfl) ?q8_7)) hS0 ?r8_7; (case q8_7 => (intro w hx; (try dsimp only); (try go_simp); (try with_reducible rfl)))
          (try simp only [Act.put, List.setIfInBounds_toArray, List.set_cons_zero, List.set_cons_succ, List.getElem_toArray, List.getElem_cons_succ, List.getElem_cons_zero])
          refine wpAnyJ_take (i := 9) (v := ?v9_8) rfl (by kernel_rfl) (by kernel_rfl) (by kernel_rfl) (by kernel_rfl) (fun _ _ _ h => h) (Or.inl (And.intro (by kernel_rfl) ?q9_8)) hS0 ?r9_8; (case q9_8 => (intro w hx; (try dsimp only); (try go_simp); (try with_reducible rfl)))
          (try simp only [Act.put, List.setIfInBounds_toArray, List.set_cons_zero, List.set_cons_succ, List.getElem_toArray, List.getElem_cons_succ, List.getElem_cons_zero])
          refine wpAnyJ_take (i := 10) (v := ?v10_9) rfl (by kernel_rfl) (by kernel_rfl) (by kernel_rfl) (by kernel_rfl) (fun _ _ _ h => h) (Or.inl (And.intro (by kernel_rfl) ?q10_9)) hS0 ?r10_9; (case q10_9 => (intro w hx; (try dsimp only); (try go_simp); (try with_reducible rfl)))
          (try simp only [Act.put, List.setIfInBounds_toArray, List.set_cons_zero, List.set_cons_succ, List.getElem_toArray, List.getElem_cons_succ, List.getElem_cons_zero])
          refine wpAnyJ_take (i := 11) (v := ?v11_10) rfl (by kernel_rfl) (by kernel_rfl) (by kernel_rfl) (by kernel_rfl) (fun _ _ _ h => h) (Or.inl (And.intro (by kernel_rfl) ?q11_10)) hS0 ?r11_10; (case q11_10 => (intro w hx; (try dsimp only); (try go_simp); (try with_reducible rfl)))
          (try simp only [Act.put, List.setIfInBounds_toArray, List.set_cons_zero, List.set_cons_succ, List.getElem_toArray, List.getElem_cons_succ, List.getElem_cons_zero])
          refine wpAnyJ_done (by kernel_rfl) ?_ _
        have b8 := hS0
        clear hS0
        cases fv
        · have er : RV = (zeroP, 11) := by rw [HRV.out, if_neg HK.out, if_neg (by simp [HR.out]), if_neg HP.out, if_neg (by decide)]
          clear HRV
          subst er
          go_wp2_with fail
          have d1 := Cells.below b8 D1.out
          have l2 := bstep L0.out b8
          clear qd0_0 qd0_1 qd0_2 qd0_3 qd0_4 qd0_5 qd0_6 qd0_7 qd0_8 qd1_0 qd1_1 qd1_2 qd1_3 qd1_4 qd1_5 qd1_6 qd1_7 qd1_8 qd1_9 qd6_0 qd6_1 qd6_2 qd6_3 qd6_4 qd6_5 qd6_6 qd6_7 qd6_8 qd6_9 fz fz6 bb
          have r5 := (Cells.put10 d1 (.int .u8 0) (.int .u32 0) (.int .u16 0) (.int .u32 0) (.int .u16 0) (.int .u32 0) (.int .u16 0) (.bool false) (.int .i64 0) (.slice none 0 0))
          have b5 := (Below.put10 l2 (b := w.heap.size + 1) (by first | exact Nat.le_refl _ | omega) (.int .u8 0) (.int .u32 0) (.int .u16 0) (.int .u32 0) (.int .u16 0) (.int .u32 0) (.int .u16 0) (.bool false) (.int .i64 0) (.slice none 0 0))
          have HR5 := hide r5; have HB5 := hide b5
          clear r5 b5 d1
          generalize ((((((((((wq.setCell ⟨w.heap.size + 1, 0, none⟩ (.int .u8 0)).setCell ⟨w.heap.size + 1, 1, none⟩ (.int .u32 0)).setCell ⟨w.heap.size + 1, 2, none⟩ (.int .u16 0)).setCell ⟨w.heap.size + 1, 3, none⟩ (.int .u32 0)).setCell ⟨w.heap.size + 1, 4, none⟩ (.int .u16 0)).setCell ⟨w.heap.size + 1, 5, none⟩ (.int .u32 0)).setCell ⟨w.heap.size + 1, 6, none⟩ (.int .u16 0)).setCell ⟨w.heap.size + 1, 7, none⟩ (.bool false)).setCell ⟨w.heap.size + 1, 8, none⟩ (.int .i64 0)).setCell ⟨w.heap.size + 1, 9, none⟩ (.slice none 0 0)) = W5 at *
          have r5 := HR5.out; have b5 := HB5.out
          clear HR5 HB5
          have xr5_0 : W5.cell? ⟨w.heap.size + 1, 0, none⟩ = some (.int .u8 0) := r5.at_ 0
          have xr5_1 : W5.cell? ⟨w.heap.size + 1, 1, none⟩ = some (.int .u32 0) := r5.at_ 1
          have xr5_2 : W5.cell? ⟨w.heap.size + 1, 2, none⟩ = some (.int .u16 0) := r5.at_ 2
          have xr5_3 : W5.cell? ⟨w.heap.size + 1, 3, none⟩ = some (.int .u32 0) := r5.at_ 3
          have xr5_4 : W5.cell? ⟨w.heap.size + 1, 4, none⟩ = some (.int .u16 0) := r5.at_ 4
          have xr5_5 : W5.cell? ⟨w.heap.size + 1, 5, none⟩ = some (.int .u32 0) := r5.at_ 5
          have xr5_6 : W5.cell? ⟨w.heap.size + 1, 6, none⟩ = some (.int .u16 0) := r5.at_ 6
          have xr5_7 : W5.cell? ⟨w.heap.size + 1, 7, none⟩ = some (.bool false) := r5.at_ 7
          have xr5_8 : W5.cell? ⟨w.heap.size + 1, 8, none⟩ = some (.int .i64 0) := r5.at_ 8
          have xr5_9 : W5.cell? ⟨w.heap.size + 1, 9, none⟩ = some (.slice none 0 0) := r5.at_ 9
          (try simp only [Exit.inBlock, Exit.then]); refine bodyPost_ret (by simp [results, Tryd.results13, go_sem, *]; try rfl) rfl ?_
          exact ⟨_, rfl, RowK.Own.nil _, (fun g e => by cases e), b5⟩
        · have er : RV = ({ q with st := 1 }, 0) := by rw [HRV.out, if_neg HK.out, if_neg (by simp [HR.out]), if_neg HP.out, if_pos rfl]
          clear HRV
          subst er
          have es : s1 = 1 := HS1.out
          clear HS1
          subst es
          go_upto_region 12 with fail
          have d6c : Cells (wq.setCell ⟨g6, 8, none⟩ (.int .i64 1)) g6 #[.int .u8 q.x.p, .int .u32 q.x.si, .int .u16 q.x.sp, .int .u32 q.x.di, .int .u16 q.x.dp, .int .u32 q.di, .int .u16 q.dp, .bool q.src, .int .i64 1, .slice A0 q.ws.length c0] 31 := Cells.like (Cells.set_ (Cells.below b8 D6.out) 8 (.int .i64 1)) (by simp)
          have hne : w.heap.size + 1 ≠ g6 := by omega
          have d1c := Cells.other (Cells.below b8 D1.out) hne 8 (.int .i64 1)
          have hoff : (Value.slice A0 q.ws.length c0).ownBlock ≠ some g6 := fun e => by have := H6.out g6 e; omega
          have oc := Own.set (RowK.Own.below OV.out b8) g6 8 (.int .i64 1) hoff
          have lc : Below w.heap.size w (wq.setCell ⟨g6, 8, none⟩ (.int .i64 1)) := Below.setCell (bstep L0.out b8) (by show w.heap.size ≤ g6; omega) _
          clear qd0_0 qd0_1 qd0_2 qd0_3 qd0_4 qd0_5 qd0_6 qd0_7 qd0_8 qd1_0 qd1_1 qd1_2 qd1_3 qd1_4 qd1_5 qd1_6 qd1_7 qd1_8 qd1_9 qd6_0 qd6_1 qd6_2 qd6_3 qd6_4 qd6_5 qd6_6 qd6_7 qd6_8 qd6_9 fz fz6 bb
          clear b8 hoff hne D0 D1 D6 OV H6 CR CF CT
          generalize (wq.setCell ⟨g6, 8, none⟩ (.int .i64 1)) = w10 at *
          have xd6c_0 : w10.cell? ⟨g6, 0, none⟩ = some (.int .u8 q.x.p) := d6c.at_ 0
          have xd6c_1 : w10.cell? ⟨g6, 1, none⟩ = some (.int .u32 q.x.si) := d6c.at_ 1
          have xd6c_2 : w10.cell? ⟨g6, 2, none⟩ = some (.int .u16 q.x.sp) := d6c.at_ 2
          have xd6c_3 : w10.cell? ⟨g6, 3, none⟩ = some (.int .u32 q.x.di) := d6c.at_ 3
          have xd6c_4 : w10.cell? ⟨g6, 4, none⟩ = some (.int .u16 q.x.dp) := d6c.at_ 4
          have xd6c_5 : w10.cell? ⟨g6, 5, none⟩ = some (.int .u32 q.di) := d6c.at_ 5
          have xd6c_6 : w10.cell? ⟨g6, 6, none⟩ = some (.int .u16 q.dp) := d6c.at_ 6
          have xd6c_7 : w10.cell? ⟨g6, 7, none⟩ = some (.bool q.src) := d6c.at_ 7
          have xd6c_8 : w10.cell? ⟨g6, 8, none⟩ = some (.int .i64 1) := d6c.at_ 8
          have xd6c_9 : w10.cell? ⟨g6, 9, none⟩ = some (.slice A0 q.ws.length c0) := d6c.at_ 9
          have xd1c_0 : w10.cell? ⟨w.heap.size + 1, 0, none⟩ = some (.int .u8 0) := d1c.at_ 0
          have xd1c_1 : w10.cell? ⟨w.heap.size + 1, 1, none⟩ = some (.int .u32 0) := d1c.at_ 1
          have xd1c_2 : w10.cell? ⟨w.heap.size + 1, 2, none⟩ = some (.int .u16 0) := d1c.at_ 2
          have xd1c_3 : w10.cell? ⟨w.heap.size + 1, 3, none⟩ = some (.int .u32 0) := d1c.at_ 3
          have xd1c_4 : w10.cell? ⟨w.heap.size + 1, 4, none⟩ = some (.int .u16 0) := d1c.at_ 4
          have xd1c_5 : w10.cell? ⟨w.heap.size + 1, 5, none⟩ = some (.int .u32 0) := d1c.at_ 5
          have xd1c_6 : w10.cell? ⟨w.heap.size + 1, 6, none⟩ = some (.int .u16 0) := d1c.at_ 6
          have xd1c_7 : w10.cell? ⟨w.heap.size + 1, 7, none⟩ = some (.bool false) := d1c.at_ 7
          have xd1c_8 : w10.cell? ⟨w.heap.size + 1, 8, none⟩ = some (.int .i64 0) := d1c.at_ 8
          have xd1c_9 : w10.cell? ⟨w.heap.size + 1, 9, none⟩ = some (.slice none 0 0) := d1c.at_ 9
          have yd1c_0 : w10.frozen? ⟨w.heap.size + 1, 0, none⟩ = false := d1c.free 0
          have yd1c_1 : w10.frozen? ⟨w.heap.size + 1, 1, none⟩ = false := d1c.free 1
          have yd1c_2 : w10.frozen? ⟨w.heap.size + 1, 2, none⟩ = false := d1c.free 2
          have yd1c_3 : w10.frozen? ⟨w.heap.size + 1, 3, none⟩ = false := d1c.free 3
          have yd1c_4 : w10.frozen? ⟨w.heap.size + 1, 4, none⟩ = false := d1c.free 4
          have yd1c_5 : w10.frozen? ⟨w.heap.size + 1, 5, none⟩ = false := d1c.free 5
          have yd1c_6 : w10.frozen? ⟨w.heap.size + 1, 6, none⟩ = false := d1c.free 6
          have yd1c_7 : w10.frozen? ⟨w.heap.size + 1, 7, none⟩ = false := d1c.free 7
          have yd1c_8 : w10.frozen? ⟨w.heap.size + 1, 8, none⟩ = false := d1c.free 8
          have yd1c_9 : w10.frozen? ⟨w.heap.size + 1, 9, none⟩ = false := d1c.free 9
          go_wp2_with fail
          clear xd6c_0 xd1c_0 yd1c_0 xd6c_1 xd1c_1 yd1c_1 xd6c_2 xd1c_2 yd1c_2 xd6c_3 xd1c_3 yd1c_3 xd6c_4 xd1c_4 yd1c_4 xd6c_5 xd1c_5 yd1c_5 xd6c_6 xd1c_6 yd1c_6 xd6c_7 xd1c_7 yd1c_7 xd6c_8 xd1c_8 yd1c_8 xd6c_9 xd1c_9 yd1c_9
          have q5 : Only (fun i => i = w.heap.size + 1) w10 ((((((((((w10.setCell ⟨w.heap.size + 1, 0, none⟩ (.int .u8 q.x.p)).setCell ⟨w.heap.size + 1, 1, none⟩ (.int .u32 q.x.si)).setCell ⟨w.heap.size + 1, 2, none⟩ (.int .u16 q.x.sp)).setCell ⟨w.heap.size + 1, 3, none⟩ (.int .u32 q.x.di)).setCell ⟨w.heap.size + 1, 4, none⟩ (.int .u16 q.x.dp)).setCell ⟨w.heap.size + 1, 5, none⟩ (.int .u32 q.di)).setCell ⟨w.heap.size + 1, 6, none⟩ (.int .u16 q.dp)).setCell ⟨w.heap.size + 1, 7, none⟩ (.bool q.src)).setCell ⟨w.heap.size + 1, 8, none⟩ (.int .i64 1)).setCell ⟨w.heap.size + 1, 9, none⟩ (.slice A0 q.ws.length c0)) := by repeat' (first | with_reducible exact Only.refl _ _ | with_reducible refine Only.setAt ?_ _ _ (Or.inl rfl))
          have hoff : (Value.slice A0 q.ws.length c0).ownBlock ≠ some (w.heap.size + 1) := fun e => by have := HV.out _ e; omega
          have o5 := Own.other oc q5 hoff
          clear q5
          have r5 := (Cells.put10 d1c (.int .u8 q.x.p) (.int .u32 q.x.si) (.int .u16 q.x.sp) (.int .u32 q.x.di) (.int .u16 q.x.dp) (.int .u32 q.di) (.int .u16 q.dp) (.bool q.src) (.int .i64 1) (.slice A0 q.ws.length c0))
          have b5 := (Below.put10 lc (b := w.heap.size + 1) (by first | exact Nat.le_refl _ | omega) (.int .u8 q.x.p) (.int .u32 q.x.si) (.int .u16 q.x.sp) (.int .u32 q.x.di) (.int .u16 q.x.dp) (.int .u32 q.di) (.int .u16 q.dp) (.bool q.src) (.int .i64 1) (.slice A0 q.ws.length c0))
          have HR5 := hide r5; have HB5 := hide b5
          clear r5 b5 d1c
          generalize ((((((((((w10.setCell ⟨w.heap.size + 1, 0, none⟩ (.int .u8 q.x.p)).setCell ⟨w.heap.size + 1, 1, none⟩ (.int .u32 q.x.si)).setCell ⟨w.heap.size + 1, 2, none⟩ (.int .u16 q.x.sp)).setCell ⟨w.heap.size + 1, 3, none⟩ (.int .u32 q.x.di)).setCell ⟨w.heap.size + 1, 4, none⟩ (.int .u16 q.x.dp)).setCell ⟨w.heap.size + 1, 5, none⟩ (.int .u32 q.di)).setCell ⟨w.heap.size + 1, 6, none⟩ (.int .u16 q.dp)).setCell ⟨w.heap.size + 1, 7, none⟩ (.bool q.src)).setCell ⟨w.heap.size + 1, 8, none⟩ (.int .i64 1)).setCell ⟨w.heap.size + 1, 9, none⟩ (.slice A0 q.ws.length c0)) = W5 at *
          have r5 := HR5.out; have b5 := HB5.out
          clear HR5 HB5
          have xr5_0 : W5.cell? ⟨w.heap.size + 1, 0, none⟩ = some (.int .u8 q.x.p) := r5.at_ 0
          have xr5_1 : W5.cell? ⟨w.heap.size + 1, 1, none⟩ = some (.int .u32 q.x.si) := r5.at_ 1
          have xr5_2 : W5.cell? ⟨w.heap.size + 1, 2, none⟩ = some (.int .u16 q.x.sp) := r5.at_ 2
          have xr5_3 : W5.cell? ⟨w.heap.size + 1, 3, none⟩ = some (.int .u32 q.x.di) := r5.at_ 3
          have xr5_4 : W5.cell? ⟨w.heap.size + 1, 4, none⟩ = some (.int .u16 q.x.dp) := r5.at_ 4
          have xr5_5 : W5.cell? ⟨w.heap.size + 1, 5, none⟩ = some (.int .u32 q.di) := r5.at_ 5
          have xr5_6 : W5.cell? ⟨w.heap.size + 1, 6, none⟩ = some (.int .u16 q.dp) := r5.at_ 6
          have xr5_7 : W5.cell? ⟨w.heap.size + 1, 7, none⟩ = some (.bool q.src) := r5.at_ 7
          have xr5_8 : W5.cell? ⟨w.heap.size + 1, 8, none⟩ = some (.int .i64 1) := r5.at_ 8
          have xr5_9 : W5.cell? ⟨w.heap.size + 1, 9, none⟩ = some (.slice A0 q.ws.length c0) := r5.at_ 9
          (try simp only [Exit.inBlock, Exit.then]); refine bodyPost_ret (by simp [results, Tryd.results13, go_sem, *]; try rfl) rfl ?_
          exact ⟨_, rfl, o5, (fun g e => Nat.le_of_lt (Nat.lt_of_succ_lt (HV.out g e))), b5⟩
      · go_upto_region 8 with fail
        focus
          refine wp_region_J [] (fun W => Below w5.heap.size w5 W) (by kernel_rfl) (bb.drew) (fun hS0 => ?_)
          refine wpAnyJ_take (i := 0) (v := ?v0_11) rfl (by kernel_rfl) (by kernel_rfl) (by kernel_rfl) (by kernel_rfl) (fun _ _ _ h => h) (Or.inl (And.intro (by kernel_rfl) ?q0_11)) hS0 ?r0_11; (case q0_11 => (intro w hx; (try dsimp only); (try go_simp); (try with_reducible rfl)))
          (try simp only [Act.put, List.setIfInBounds_toArray, List.set_cons_zero, List.set_cons_succ, List.getElem_toArray, List.getElem_cons_succ, List.getElem_cons_zero])
          refine wpAnyJ_take (i := 1) (v := ?v1_12) rfl (by kernel_rfl) (by kernel_rfl) (by kernel_rfl) (by kernel_rfl) (fun _ _ _ h => h) (Or.inl (And.intro (by kernel_rfl) ?q1_12)) hS0 ?r1_12; (case q1_12 => (intro w hx; (try dsimp only); (try go_simp); (try with_reducible rfl)))
          (try simp only [Act.put, List.setIfInBounds_toArray, List.set_cons_zero, List.set_cons_succ, List.getElem_toArray, List.getElem_cons_succ, List.getElem_cons_zero])
          refine wpAnyJ_take (i := 2) (v := ?v2_13) rfl (by kernel_rfl) (by kernel_rfl) (by kernel_rfl) (by kernel_rfl) (fun _ _ _ h => h) (Or.inl (And.intro (by kernel_rfl) ?q2_13)) hS0 ?r2_13; (case q2_13 => (intro w hx; (try dsimp only); (try go_simp); (try with_reducible rfl)))
          (try simp only [Act.put, List.setIfInBounds_toArray, List.set_cons_zero, List.set_cons_succ, List.getElem_toArray, List.getElem_cons_succ, List.getElem_cons_zero])
          refine wpAnyJ_take (i := 4) (v := ?v4_14) rfl (by kernel_rfl) (by kernel_rfl) (by kernel_rfl) (by kernel_rfl) (fun _ _ _ h => h) (Or.inl (And.intro (by kernel_rfl) ?q4_14)) hS0 ?r4_14; (case q4_14 => (intro w hx; (try dsimp only); (try go_simp); (try with_reducible rfl)))
          (try simp only [Act.put, List.setIfInBounds_toArray, List.set_cons_zero, List.set_cons_succ, List.getElem_toArray, List.getElem_cons_succ, List.getElem_cons_zero])
          refine wpAnyJ_take (i := 5) (v := ?v5_15) rfl (by kernel_rfl) (by kernel_rfl) (by kernel_rfl) (by kernel_rfl) (fun _ _ _ h => h) (Or.inl (And.intro (by kernel_rfl) ?q5_15)) hS0 ?r5_15; (case q5_15 => (intro w hx; (try dsimp only); (try go_simp); (try with_reducible rfl)))
          (try simp only [Act.put, List.setIfInBounds_toArray, List.set_cons_zero, List.set_cons_succ, List.getElem_toArray, List.getElem_cons_succ, List.getElem_cons_zero])
          refine wpAnyJ_ready (rs := [3]) (by kernel_rfl) (by simp) ?_
          refine (AllReadyJ.cons rfl (fun K hK => ?_) AllReadyJ.nil)
          rw [if_pos (by kernel_rfl)]
          (try simp only [List.getElem_toArray, List.getElem_cons_succ, List.getElem_cons_zero])
          (focus go_simp)
          (focus ((with_reducible refine (CF.out _).mono ?_); rintro e wq ⟨rfl, bq⟩))
          (focus (try go_wp2_with fail))
          refine hK.out _ _ ?hs (fun hS0 => ?_)
          case hs => (first | with_reducible exact hS0 | exact bstep hS0 bq)
          clear hK K
          (try simp only [Act.put, List.setIfInBounds_toArray, List.set_cons_zero, List.set_cons_succ, List.getElem_toArray, List.getElem_cons_succ, List.getElem_cons_zero])
          refine wpAnyJ_ready (rs := [6]) (by kernel_rfl) (by simp) ?_
          refine (AllReadyJ.cons rfl (fun K hK => ?_) AllReadyJ.nil)
          rw [if_pos (by kernel_rfl)]
          (try simp only [List.getElem_toArray, List.getElem_cons_succ, List.getElem_cons_zero])
          (focus go_simp)
          (focus ((with_reducible refine (CT.out _ (bstep L0.out hS0)).mono ?_); rintro e wq ⟨rfl, bq⟩))
          (focus (try go_wp2_with fail))
          refine hK.out _ _ ?hs (fun hS0 => ?_)
          case hs => (first | with_reducible exact hS0 | exact bstep hS0 bq)
          clear hK K
          (try simp only [Act.put, List.setIfInBounds_toArray, List.set_cons_zero, List.set_cons_succ, List.getElem_toArray, List.getElem_cons_succ, List.getElem_cons_zero])
          refine wpAnyJ_take (i := 7) (v := ?v7_16) rfl (by kernel_rfl) (by kernel_rfl) (by kernel_rfl) (by kernel_rfl) (fun _ _ _ h => h) (Or.inl (And.intro (by kernel_rfl) ?q7_16)) hS0 ?r7_16; (case q7_16 => (intro w hx; (try dsimp only); (try go_simp); (try with_reducible rfl)))
          (try simp only [Act.put, List.setIfInBounds_toArray, List.set_cons_zero, List.set_cons_succ, List.getElem_toArray, List.getElem_cons_succ, List.getElem_cons_zero])
          refine wpAnyJ_take (i := 8) (v := ?v8_17) rfl (by kernel_rfl) (by kernel_rfl) (by kernel_rfl) (by kernel_rfl) (fun _ _ _ h => h) (Or.inl (And.intro (by kernel_rfl) ?q8_17)) hS0 ?r8_17; (case q8_17 => (intro w hx; (try dsimp only); (try go_simp); (try with_reducible rfl)))
          (try simp only [Act.put, List.setIfInBounds_toArray, List.set_cons_zero, List.set_cons_succ, List.getElem_toArray, List.getElem_cons_succ, List.getElem_cons_zero])
          refine wpAnyJ_take (i := 9) (v := ?v9_18) rfl (by kernel_rfl) (by kernel_rfl) (by kernel_rfl) (by kernel_rfl) (fun _ _ _ h => h) (Or.inl (And.intro (by kernel_rfl) ?q9_18)) hS0 ?r9_18; (case q9_18 => (intro w hx; (try dsimp only); (try go_simp); (try with_reducible rfl)))
          (try simp only [Act.put, List.setIfInBounds_toArray, List.set_cons_zero, List.set_cons_succ, List.getElem_toArray, List.getElem_cons_succ, List.getElem_cons_zero])
          refine wpAnyJ_take (i := 10) (v := ?v10_19) rfl (by kernel_rfl) (by kernel_rfl) (by kernel_rfl) (by kernel_rfl) (fun _ _ _ h => h) (Or.inl (And.intro (by kernel_rfl) ?q10_19)) hS0 ?r10_19; (case q10_19 => (intro w hx; (try dsimp only); (try go_simp); (try with_reducible rfl)))
          (try simp only [Act.put, List.setIfInBounds_toArray, List.set_cons_zero, List.set_cons_succ, List.getElem_toArray, List.getElem_cons_succ, List.getElem_cons_zero])
          refine wpAnyJ_take (i := 11) (v := ?v11_20) rfl (by kernel_rfl) (by kernel_rfl) (by kernel_rfl) (by kernel_rfl) (fun _ _ _ h => h) (Or.inl (And.intro (by kernel_rfl) ?q11_20)) hS0 ?r11_20; (case q11_20 => (intro w hx; (try dsimp only); (try go_simp); (try with_reducible rfl)))
          (try simp only [Act.put, List.setIfInBounds_toArray, List.set_cons_zero, List.set_cons_succ, List.getElem_toArray, List.getElem_cons_succ, List.getElem_cons_zero])
          refine wpAnyJ_done (by kernel_rfl) ?_ _
        have b8 := hS0
        clear hS0
        cases fv
        · have er : RV = (zeroP, 11) := by rw [HRV.out, if_neg HK.out, if_neg (by simp [HR.out]), if_neg HP.out, if_neg (by decide)]
          clear HRV
          subst er
          go_wp2_with fail
          have d1 := Cells.below b8 D1.out
          have l2 := bstep L0.out b8
          clear qd0_0 qd0_1 qd0_2 qd0_3 qd0_4 qd0_5 qd0_6 qd0_7 qd0_8 qd1_0 qd1_1 qd1_2 qd1_3 qd1_4 qd1_5 qd1_6 qd1_7 qd1_8 qd1_9 qd6_0 qd6_1 qd6_2 qd6_3 qd6_4 qd6_5 qd6_6 qd6_7 qd6_8 qd6_9 fz fz6 bb
          have r5 := (Cells.put10 d1 (.int .u8 0) (.int .u32 0) (.int .u16 0) (.int .u32 0) (.int .u16 0) (.int .u32 0) (.int .u16 0) (.bool false) (.int .i64 0) (.slice none 0 0))
          have b5 := (Below.put10 l2 (b := w.heap.size + 1) (by first | exact Nat.le_refl _ | omega) (.int .u8 0) (.int .u32 0) (.int .u16 0) (.int .u32 0) (.int .u16 0) (.int .u32 0) (.int .u16 0) (.bool false) (.int .i64 0) (.slice none 0 0))
          have HR5 := hide r5; have HB5 := hide b5
          clear r5 b5 d1
          generalize ((((((((((wq.setCell ⟨w.heap.size + 1, 0, none⟩ (.int .u8 0)).setCell ⟨w.heap.size + 1, 1, none⟩ (.int .u32 0)).setCell ⟨w.heap.size + 1, 2, none⟩ (.int .u16 0)).setCell ⟨w.heap.size + 1, 3, none⟩ (.int .u32 0)).setCell ⟨w.heap.size + 1, 4, none⟩ (.int .u16 0)).setCell ⟨w.heap.size + 1, 5, none⟩ (.int .u32 0)).setCell ⟨w.heap.size + 1, 6, none⟩ (.int .u16 0)).setCell ⟨w.heap.size + 1, 7, none⟩ (.bool false)).setCell ⟨w.heap.size + 1, 8, none⟩ (.int .i64 0)).setCell ⟨w.heap.size + 1, 9, none⟩ (.slice none 0 0)) = W5 at *
          have r5 := HR5.out; have b5 := HB5.out
          clear HR5 HB5
          have xr5_0 : W5.cell? ⟨w.heap.size + 1, 0, none⟩ = some (.int .u8 0) := r5.at_ 0
          have xr5_1 : W5.cell? ⟨w.heap.size + 1, 1, none⟩ = some (.int .u32 0) := r5.at_ 1
          have xr5_2 : W5.cell? ⟨w.heap.size + 1, 2, none⟩ = some (.int .u16 0) := r5.at_ 2
          have xr5_3 : W5.cell? ⟨w.heap.size + 1, 3, none⟩ = some (.int .u32 0) := r5.at_ 3
          have xr5_4 : W5.cell? ⟨w.heap.size + 1, 4, none⟩ = some (.int .u16 0) := r5.at_ 4
          have xr5_5 : W5.cell? ⟨w.heap.size + 1, 5, none⟩ = some (.int .u32 0) := r5.at_ 5
          have xr5_6 : W5.cell? ⟨w.heap.size + 1, 6, none⟩ = some (.int .u16 0) := r5.at_ 6
          have xr5_7 : W5.cell? ⟨w.heap.size + 1, 7, none⟩ = some (.bool false) := r5.at_ 7
          have xr5_8 : W5.cell? ⟨w.heap.size + 1, 8, none⟩ = some (.int .i64 0) := r5.at_ 8
          have xr5_9 : W5.cell? ⟨w.heap.size + 1, 9, none⟩ = some (.slice none 0 0) := r5.at_ 9
          (try simp only [Exit.inBlock, Exit.then]); refine bodyPost_ret (by simp [results, Tryd.results13, go_sem, *]; try rfl) rfl ?_
          exact ⟨_, rfl, RowK.Own.nil _, (fun g e => by cases e), b5⟩
        · have er : RV = ({ q with st := 1 }, 0) := by rw [HRV.out, if_neg HK.out, if_neg (by simp [HR.out]), if_neg HP.out, if_pos rfl]
          clear HRV
          subst er
          have es : s1 = 1 := HS1.out
          clear HS1
          subst es
          go_upto_region 12 with fail
          have d6c : Cells (wq.setCell ⟨g6, 8, none⟩ (.int .i64 1)) g6 #[.int .u8 q.x.p, .int .u32 q.x.si, .int .u16 q.x.sp, .int .u32 q.x.di, .int .u16 q.x.dp, .int .u32 q.di, .int .u16 q.dp, .bool q.src, .int .i64 1, .slice A0 q.ws.length c0] 31 := Cells.like (Cells.set_ (Cells.below b8 D6.out) 8 (.int .i64 1)) (by simp)
          have hne : w.heap.size + 1 ≠ g6 := by omega
          have d1c := Cells.other (Cells.below b8 D1.out) hne 8 (.int .i64 1)
          have hoff : (Value.slice A0 q.ws.length c0).ownBlock ≠ some g6 := fun e => by have := H6.out g6 e; omega
          have oc := Own.set (RowK.Own.below OV.out b8) g6 8 (.int .i64 1) hoff
          have lc : Below w.heap.size w (wq.setCell ⟨g6, 8, none⟩ (.int .i64 1)) := Below.setCell (bstep L0.out b8) (by show w.heap.size ≤ g6; omega) _
          clear qd0_0 qd0_1 qd0_2 qd0_3 qd0_4 qd0_5 qd0_6 qd0_7 qd0_8 qd1_0 qd1_1 qd1_2 qd1_3 qd1_4 qd1_5 qd1_6 qd1_7 qd1_8 qd1_9 qd6_0 qd6_1 qd6_2 qd6_3 qd6_4 qd6_5 qd6_6 qd6_7 qd6_8 qd6_9 fz fz6 bb
          clear b8 hoff hne D0 D1 D6 OV H6 CR CF CT
          generalize (wq.setCell ⟨g6, 8, none⟩ (.int .i64 1)) = w10 at *
          have xd6c_0 : w10.cell? ⟨g6, 0, none⟩ = some (.int .u8 q.x.p) := d6c.at_ 0
          have xd6c_1 : w10.cell? ⟨g6, 1, none⟩ = some (.int .u32 q.x.si) := d6c.at_ 1
          have xd6c_2 : w10.cell? ⟨g6, 2, none⟩ = some (.int .u16 q.x.sp) := d6c.at_ 2
          have xd6c_3 : w10.cell? ⟨g6, 3, none⟩ = some (.int .u32 q.x.di) := d6c.at_ 3
          have xd6c_4 : w10.cell? ⟨g6, 4, none⟩ = some (.int .u16 q.x.dp) := d6c.at_ 4
          have xd6c_5 : w10.cell? ⟨g6, 5, none⟩ = some (.int .u32 q.di) := d6c.at_ 5
          have xd6c_6 : w10.cell? ⟨g6, 6, none⟩ = some (.int .u16 q.dp) := d6c.at_ 6
          have xd6c_7 : w10.cell? ⟨g6, 7, none⟩ = some (.bool q.src) := d6c.at_ 7
          have xd6c_8 : w10.cell? ⟨g6, 8, none⟩ = some (.int .i64 1) := d6c.at_ 8
          have xd6c_9 : w10.cell? ⟨g6, 9, none⟩ = some (.slice A0 q.ws.length c0) := d6c.at_ 9
          have xd1c_0 : w10.cell? ⟨w.heap.size + 1, 0, none⟩ = some (.int .u8 0) := d1c.at_ 0
          have xd1c_1 : w10.cell? ⟨w.heap.size + 1, 1, none⟩ = some (.int .u32 0) := d1c.at_ 1
          have xd1c_2 : w10.cell? ⟨w.heap.size + 1, 2, none⟩ = some (.int .u16 0) := d1c.at_ 2
          have xd1c_3 : w10.cell? ⟨w.heap.size + 1, 3, none⟩ = some (.int .u32 0) := d1c.at_ 3
          have xd1c_4 : w10.cell? ⟨w.heap.size + 1, 4, none⟩ = some (.int .u16 0) := d1c.at_ 4
          have xd1c_5 : w10.cell? ⟨w.heap.size + 1, 5, none⟩ = some (.int .u32 0) := d1c.at_ 5
          have xd1c_6 : w10.cell? ⟨w.heap.size + 1, 6, none⟩ = some (.int .u16 0) := d1c.at_ 6
          have xd1c_7 : w10.cell? ⟨w.heap.size + 1, 7, none⟩ = some (.bool false) := d1c.at_ 7
          have xd1c_8 : w10.cell? ⟨w.heap.size + 1, 8, none⟩ = some (.int .i64 0) := d1c.at_ 8
          have xd1c_9 : w10.cell? ⟨w.heap.size + 1, 9, none⟩ = some (.slice none 0 0) := d1c.at_ 9
          have yd1c_0 : w10.frozen? ⟨w.heap.size + 1, 0, none⟩ = false := d1c.free 0
          have yd1c_1 : w10.frozen? ⟨w.heap.size + 1, 1, none⟩ = false := d1c.free 1
          have yd1c_2 : w10.frozen? ⟨w.heap.size + 1, 2, none⟩ = false := d1c.free 2
          have yd1c_3 : w10.frozen? ⟨w.heap.size + 1, 3, none⟩ = false := d1c.free 3
          have yd1c_4 : w10.frozen? ⟨w.heap.size + 1, 4, none⟩ = false := d1c.free 4
          have yd1c_5 : w10.frozen? ⟨w.heap.size + 1, 5, none⟩ = false := d1c.free 5
          have yd1c_6 : w10.frozen? ⟨w.heap.size + 1, 6, none⟩ = false := d1c.free 6
          have yd1c_7 : w10.frozen? ⟨w.heap.size + 1, 7, none⟩ = false := d1c.free 7
          have yd1c_8 : w10.frozen? ⟨w.heap.size + 1, 8, none⟩ = false := d1c.free 8
          have yd1c_9 : w10.frozen? ⟨w.heap.size + 1, 9, none⟩ = false := d1c.free 9
          go_wp2_with fail
          clear xd6c_0 xd1c_0 yd1c_0 xd6c_1 xd1c_1 yd1c_1 xd6c_2 xd1c_2 yd1c_2 xd6c_3 xd1c_3 yd1c_3 xd6c_4 xd1c_4 yd1c_4 xd6c_5 xd1c_5 yd1c_5 xd6c_6 xd1c_6 yd1c_6 xd6c_7 xd1c_7 yd1c_7 xd6c_8 xd1c_8 yd1c_8 xd6c_9 xd1c_9 yd1c_9
          have q5 : Only (fun i => i = w.heap.size + 1) w10 ((((((((((w10.setCell ⟨w.heap.size + 1, 0, none⟩ (.int .u8 q.x.p)).setCell ⟨w.heap.size + 1, 1, none⟩ (.int .u32 q.x.si)).setCell ⟨w.heap.size + 1, 2, none⟩ (.int .u16 q.x.sp)).setCell ⟨w.heap.size + 1, 3, none⟩ (.int .u32 q.x.di)).setCell ⟨w.heap.size + 1, 4, none⟩ (.int .u16 q.x.dp)).setCell ⟨w.heap.size + 1, 5, none⟩ (.int .u32 q.di)).setCell ⟨w.heap.size + 1, 6, none⟩ (.int .u16 q.dp)).setCell ⟨w.heap.size + 1, 7, none⟩ (.bool q.src)).setCell ⟨w.heap.size + 1, 8, none⟩ (.int .i64 1)).setCell ⟨w.heap.size + 1, 9, none⟩ (.slice A0 q.ws.length c0)) := by repeat' (first | with_reducible exact Only.refl _ _ | with_reducible refine Only.setAt ?_ _ _ (Or.inl rfl))
          have hoff : (Value.slice A0 q.ws.length c0).ownBlock ≠ some (w.heap.size + 1) := fun e => by have := HV.out _ e; omega
          have o5 := Own.other oc q5 hoff
          clear q5
          have r5 := (Cells.put10 d1c (.int .u8 q.x.p) (.int .u32 q.x.si) (.int .u16 q.x.sp) (.int .u32 q.x.di) (.int .u16 q.x.dp) (.int .u32 q.di) (.int .u16 q.dp) (.bool q.src) (.int .i64 1) (.slice A0 q.ws.length c0))
          have b5 := (Below.put10 lc (b := w.heap.size + 1) (by first | exact Nat.le_refl _ | omega) (.int .u8 q.x.p) (.int .u32 q.x.si) (.int .u16 q.x.sp) (.int .u32 q.x.di) (.int .u16 q.x.dp) (.int .u32 q.di) (.int .u16 q.dp) (.bool q.src) (.int .i64 1) (.slice A0 q.ws.length c0))
          have HR5 := hide r5; have HB5 := hide b5
          clear r5 b5 d1c
          generalize ((((((((((w10.setCell ⟨w.heap.size + 1, 0, none⟩ (.int .u8 q.x.p)).setCell ⟨w.heap.size + 1, 1, none⟩ (.int .u32 q.x.si)).setCell ⟨w.heap.size + 1, 2, none⟩ (.int .u16 q.x.sp)).setCell ⟨w.heap.size + 1, 3, none⟩ (.int .u32 q.x.di)).setCell ⟨w.heap.size + 1, 4, none⟩ (.int .u16 q.x.dp)).setCell ⟨w.heap.size + 1, 5, none⟩ (.int .u32 q.di)).setCell ⟨w.heap.size + 1, 6, none⟩ (.int .u16 q.dp)).setCell ⟨w.heap.size + 1, 7, none⟩ (.bool q.src)).setCell ⟨w.heap.size + 1, 8, none⟩ (.int .i64 1)).setCell ⟨w.heap.size + 1, 9, none⟩ (.slice A0 q.ws.length c0)) = W5 at *
          have r5 := HR5.out; have b5 := HB5.out
          clear HR5 HB5
          have xr5_0 : W5.cell? ⟨w.heap.size + 1, 0, none⟩ = some (.int .u8 q.x.p) := r5.at_ 0
          have xr5_1 : W5.cell? ⟨w.heap.size + 1, 1, none⟩ = some (.int .u32 q.x.si) := r5.at_ 1
          have xr5_2 : W5.cell? ⟨w.heap.size + 1, 2, none⟩ = some (.int .u16 q.x.sp) := r5.at_ 2
          have xr5_3 : W5.cell? ⟨w.heap.size + 1, 3, none⟩ = some (.int .u32 q.x.di) := r5.at_ 3
          have xr5_4 : W5.cell? ⟨w.heap.size + 1, 4, none⟩ = some (.int .u16 q.x.dp) := r5.at_ 4
          have xr5_5 : W5.cell? ⟨w.heap.size + 1, 5, none⟩ = some (.int .u32 q.di) := r5.at_ 5
          have xr5_6 : W5.cell? ⟨w.heap.size + 1, 6, none⟩ = some (.int .u16 q.dp) := r5.at_ 6
          have xr5_7 : W5.cell? ⟨w.heap.size + 1, 7, none⟩ = some (.bool q.src) := r5.at_ 7
          have xr5_8 : W5.cell? ⟨w.heap.size + 1, 8, none⟩ = some (.int .i64 1) := r5.at_ 8
          have xr5_9 : W5.cell? ⟨w.heap.size + 1, 9, none⟩ = some (.slice A0 q.ws.length c0) := r5.at_ 9
          (try simp only [Exit.inBlock, Exit.then]); refine bodyPost_ret (by simp [results, Tryd.results13, go_sem, *]; try rfl) rfl ?_
          exact ⟨_, rfl, o5, (fun g e => Nat.le_of_lt (Nat.lt_of_succ_lt (HV.out g e))), b5⟩
  · have k4 : (rs != 0) = true := by simp [hr]
    have er : RV = (zeroP, rs) := by rw [HRV.out, if_neg HK.out, if_pos hr]
    clear HRV hr
    subst er
    go_wp2_with fail
    have d1 := Cells.below bb D1.out
    have l2 := bstep L0.out bb
    clear qd0_0 qd0_1 qd0_2 qd0_3 qd0_4 qd0_5 qd0_6 qd0_7 qd0_8 qd1_0 qd1_1 qd1_2 qd1_3 qd1_4 qd1_5 qd1_6 qd1_7 qd1_8 qd1_9 qd6_0 qd6_1 qd6_2 qd6_3 qd6_4 qd6_5 qd6_6 qd6_7 qd6_8 qd6_9 fz fz6 bb
    have r5 := (Cells.put10 d1 (.int .u8 0) (.int .u32 0) (.int .u16 0) (.int .u32 0) (.int .u16 0) (.int .u32 0) (.int .u16 0) (.bool false) (.int .i64 0) (.slice none 0 0))
    have b5 := (Below.put10 l2 (b := w.heap.size + 1) (by first | exact Nat.le_refl _ | omega) (.int .u8 0) (.int .u32 0) (.int .u16 0) (.int .u32 0) (.int .u16 0) (.int .u32 0) (.int .u16 0) (.bool false) (.int .i64 0) (.slice none 0 0))
    have HR5 := hide r5; have HB5 := hide b5
    clear r5 b5 d1
    generalize ((((((((((w5.setCell ⟨w.heap.size + 1, 0, none⟩ (.int .u8 0)).setCell ⟨w.heap.size + 1, 1, none⟩ (.int .u32 0)).setCell ⟨w.heap.size + 1, 2, none⟩ (.int .u16 0)).setCell ⟨w.heap.size + 1, 3, none⟩ (.int .u32 0)).setCell ⟨w.heap.size + 1, 4, none⟩ (.int .u16 0)).setCell ⟨w.heap.size + 1, 5, none⟩ (.int .u32 0)).setCell ⟨w.heap.size + 1, 6, none⟩ (.int .u16 0)).setCell ⟨w.heap.size + 1, 7, none⟩ (.bool false)).setCell ⟨w.heap.size + 1, 8, none⟩ (.int .i64 0)).setCell ⟨w.heap.size + 1, 9, none⟩ (.slice none 0 0)) = W5 at *
    have r5 := HR5.out; have b5 := HB5.out
    clear HR5 HB5
    have xr5_0 : W5.cell? ⟨w.heap.size + 1, 0, none⟩ = some (.int .u8 0) := r5.at_ 0
    have xr5_1 : W5.cell? ⟨w.heap.size + 1, 1, none⟩ = some (.int .u32 0) := r5.at_ 1
    have xr5_2 : W5.cell? ⟨w.heap.size + 1, 2, none⟩ = some (.int .u16 0) := r5.at_ 2
    have xr5_3 : W5.cell? ⟨w.heap.size + 1, 3, none⟩ = some (.int .u32 0) := r5.at_ 3
    have xr5_4 : W5.cell? ⟨w.heap.size + 1, 4, none⟩ = some (.int .u16 0) := r5.at_ 4
    have xr5_5 : W5.cell? ⟨w.heap.size + 1, 5, none⟩ = some (.int .u32 0) := r5.at_ 5
    have xr5_6 : W5.cell? ⟨w.heap.size + 1, 6, none⟩ = some (.int .u16 0) := r5.at_ 6
    have xr5_7 : W5.cell? ⟨w.heap.size + 1, 7, none⟩ = some (.bool false) := r5.at_ 7
    have xr5_8 : W5.cell? ⟨w.heap.size + 1, 8, none⟩ = some (.int .i64 0) := r5.at_ 8
    have xr5_9 : W5.cell? ⟨w.heap.size + 1, 9, none⟩ = some (.slice none 0 0) := r5.at_ 9
    (try simp only [Exit.inBlock, Exit.then]); refine bodyPost_ret (by simp [results, Tryd.results13, go_sem, *]; try rfl) rfl ?_
    exact ⟨_, rfl, RowK.Own.nil _, (fun g e => by cases e), b5⟩
end Go.Proofs.YtilfcikhipadpaaDoor
end
