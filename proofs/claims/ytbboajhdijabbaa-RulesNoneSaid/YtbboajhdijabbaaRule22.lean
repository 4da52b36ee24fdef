/- rules: a table that is none. -/
import Derived.Test.YtbboajhdijabbaaRule21
set_option linter.unusedVariables false
set_option linter.unusedSimpArgs false
namespace Go.Proofs.Ytbboajhdijabbaa
open Go.RowKit Go.Lib
attribute [local go_sem] Oper.semAt_some

/-- a table that is none: nil, or not made -/
def None (w : World) (A : Option Addr) : Prop := A = none ∨ ∃ B, A = some ⟨B, 0, none⟩ ∧ Cells w B #[.bool false, .int .u32 0, .int .u32 0, .int .i64 0, .slice none 0 0] 71
theorem None.below {w w' : World} {A : Option Addr} (h : None w A) (k : Below w.heap.size w w') : None w' A := by
  rcases h with h | ⟨B, h1, h2⟩
  · exact Or.inl h
  · exact Or.inr ⟨B, h1, Cells.below k h2⟩

set_option maxHeartbeats 4000000 in
theorem n_none (w : World) (A : Option Addr) (h : None w A) : Calls Try.prog 38 #[.pointer A] w (Ret (.bool true) w) := by
  rcases h with rfl | ⟨B, rfl, h⟩
  · go_enter Try.func38, Try.ntmps38
    go_wp2_with fail
    go_ret
    exact ⟨rfl, Below.refl _ _⟩
  · have h0 : w.cell? ⟨B, 0, none⟩ = some (.bool false) := Cells.at_ h 0
    clear h
    go_enter Try.func38, Try.ntmps38
    go_wp2_with fail
    go_ret
    exact ⟨rfl, Below.refl _ _⟩

set_option maxHeartbeats 4000000 in
set_option maxRecDepth 100000 in
theorem n_Inner (w : World) (A : Option Addr) (h : None w A) (a : Int) : Calls Try.prog 16 #[.pointer A, .int .u32 a] w (Ret (.bool false) w) := by
  have c0 : ∀ W, Below w.heap.size w W → _ := fun W hW => n_none W A (h.below hW)
  have C0 := hide c0
  clear c0 h
  go_enter Try.func16, Try.ntmps16
  have bb : Below w.heap.size w w := Below.refl _ _
  have bA : ∀ W o, Below w.heap.size w W → Below w.heap.size w (W.alloc o) := fun W o h => bstep h (fresh_below W o)
  go_wp2_with (go_at_call 38; (with_reducible refine (C0.out _ (by first | with_reducible assumption | exact bA _ _ (by with_reducible assumption) | exact bA _ _ (bA _ _ (by with_reducible assumption)))).mono ?_); rintro e2 w2 ⟨rfl, b2⟩; have b2' : Below w.heap.size w w2 := bstep (by first | with_reducible assumption | exact bA _ _ (by with_reducible assumption) | exact bA _ _ (bA _ _ (by with_reducible assumption))) b2; clear b2)
  go_ret
  exact ⟨rfl, by assumption⟩

set_option maxHeartbeats 4000000 in
set_option maxRecDepth 100000 in
theorem n_Check (w : World) (A : Option Addr) (h : None w A) (r : Rule) : Calls Try.prog 12 #[.pointer A, .agg r.cells] w (Ret (.int .i64 1) w) := by
  have c0 : ∀ W, Below w.heap.size w W → _ := fun W hW => n_none W A (h.below hW)
  unfold Rule.cells at *
  have C0 := hide c0
  clear c0 h
  go_enter Try.func12, Try.ntmps12
  have bb : Below w.heap.size w w := Below.refl _ _
  have bA : ∀ W o, Below w.heap.size w W → Below w.heap.size w (W.alloc o) := fun W o h => bstep h (fresh_below W o)
  go_wp2_with (go_at_call 38; (with_reducible refine (C0.out _ (by first | with_reducible assumption | exact bA _ _ (by with_reducible assumption) | exact bA _ _ (bA _ _ (by with_reducible assumption)))).mono ?_); rintro e2 w2 ⟨rfl, b2⟩; have b2' : Below w.heap.size w w2 := bstep (by first | with_reducible assumption | exact bA _ _ (by with_reducible assumption) | exact bA _ _ (bA _ _ (by with_reducible assumption))) b2; clear b2)
  go_ret
  exact ⟨rfl, by assumption⟩

set_option maxHeartbeats 4000000 in
set_option maxRecDepth 100000 in
theorem n_Add (w : World) (A : Option Addr) (h : None w A) (i : Int) (r : Rule) : Calls Try.prog 14 #[.pointer A, .int .i64 i, .agg r.cells] w (Ret (.int .i64 1) w) := by
  have c0 : ∀ W, Below w.heap.size w W → _ := fun W hW => n_Check W A (h.below hW) r
  unfold Rule.cells at *
  have C0 := hide c0
  clear c0 h
  go_enter Try.func14, Try.ntmps14
  have bb : Below w.heap.size w w := Below.refl _ _
  have bA : ∀ W o, Below w.heap.size w W → Below w.heap.size w (W.alloc o) := fun W o h => bstep h (fresh_below W o)
  go_wp2_with (go_at_call 12; (with_reducible refine (C0.out _ (by first | with_reducible assumption | exact bA _ _ (by with_reducible assumption) | exact bA _ _ (bA _ _ (by with_reducible assumption)))).mono ?_); rintro e2 w2 ⟨rfl, b2⟩; have b2' : Below w.heap.size w w2 := bstep (by first | with_reducible assumption | exact bA _ _ (by with_reducible assumption) | exact bA _ _ (bA _ _ (by with_reducible assumption))) b2; clear b2)
  go_ret
  exact ⟨rfl, by assumption⟩

set_option maxHeartbeats 4000000 in
set_option maxRecDepth 100000 in
theorem n_Delete (w : World) (A : Option Addr) (h : None w A) (i : Int) : Calls Try.prog 26 #[.pointer A, .int .i64 i] w (Ret (.int .i64 1) w) := by
  have c0 : ∀ W, Below w.heap.size w W → _ := fun W hW => n_none W A (h.below hW)
  have C0 := hide c0
  clear c0 h
  go_enter Try.func26, Try.ntmps26
  have bb : Below w.heap.size w w := Below.refl _ _
  have bA : ∀ W o, Below w.heap.size w W → Below w.heap.size w (W.alloc o) := fun W o h => bstep h (fresh_below W o)
  go_wp2_with (go_at_call 38; (with_reducible refine (C0.out _ (by first | with_reducible assumption | exact bA _ _ (by with_reducible assumption) | exact bA _ _ (bA _ _ (by with_reducible assumption)))).mono ?_); rintro e2 w2 ⟨rfl, b2⟩; have b2' : Below w.heap.size w w2 := bstep (by first | with_reducible assumption | exact bA _ _ (by with_reducible assumption) | exact bA _ _ (bA _ _ (by with_reducible assumption))) b2; clear b2)
  go_ret
  exact ⟨rfl, by assumption⟩

set_option maxHeartbeats 4000000 in
set_option maxRecDepth 100000 in
theorem n_List (w : World) (A : Option Addr) (h : None w A)  : Calls Try.prog 22 #[.pointer A] w (Ret (.slice none 0 0) w) := by
  have c0 : ∀ W, Below w.heap.size w W → _ := fun W hW => n_none W A (h.below hW)
  have C0 := hide c0
  clear c0 h
  go_enter Try.func22, Try.ntmps22
  have bb : Below w.heap.size w w := Below.refl _ _
  have bA : ∀ W o, Below w.heap.size w W → Below w.heap.size w (W.alloc o) := fun W o h => bstep h (fresh_below W o)
  go_wp2_with (go_at_call 38; (with_reducible refine (C0.out _ (by first | with_reducible assumption | exact bA _ _ (by with_reducible assumption) | exact bA _ _ (bA _ _ (by with_reducible assumption)))).mono ?_); rintro e2 w2 ⟨rfl, b2⟩; have b2' : Below w.heap.size w w2 := bstep (by first | with_reducible assumption | exact bA _ _ (by with_reducible assumption) | exact bA _ _ (bA _ _ (by with_reducible assumption))) b2; clear b2)
  go_ret
  exact ⟨rfl, by assumption⟩

set_option maxHeartbeats 4000000 in
set_option maxRecDepth 100000 in
theorem n_Copy (w : World) (A : Option Addr) (h : None w A)  : Calls Try.prog 32 #[.pointer A] w (Ret (.pointer none) w) := by
  have c0 : ∀ W, Below w.heap.size w W → _ := fun W hW => n_none W A (h.below hW)
  have C0 := hide c0
  clear c0 h
  go_enter Try.func32, Try.ntmps32
  have bb : Below w.heap.size w w := Below.refl _ _
  have bA : ∀ W o, Below w.heap.size w W → Below w.heap.size w (W.alloc o) := fun W o h => bstep h (fresh_below W o)
  go_wp2_with (go_at_call 38; (with_reducible refine (C0.out _ (by first | with_reducible assumption | exact bA _ _ (by with_reducible assumption) | exact bA _ _ (bA _ _ (by with_reducible assumption)))).mono ?_); rintro e2 w2 ⟨rfl, b2⟩; have b2' : Below w.heap.size w w2 := bstep (by first | with_reducible assumption | exact bA _ _ (by with_reducible assumption) | exact bA _ _ (bA _ _ (by with_reducible assumption))) b2; clear b2)
  go_ret
  exact ⟨rfl, by assumption⟩

set_option maxHeartbeats 4000000 in
set_option maxRecDepth 100000 in
theorem n_Outer (w : World) (A : Option Addr) (h : None w A) (a : Int) : Calls Try.prog 18 #[.pointer A, .int .u32 a] w (Ret (.bool false) w) := by
  have c0 : ∀ W, Below w.heap.size w W → _ := fun W hW => n_none W A (h.below hW)
  have C0 := hide c0
  clear c0 h
  go_enter Try.func18, Try.ntmps18
  have bb : Below w.heap.size w w := Below.refl _ _
  have bA : ∀ W o, Below w.heap.size w W → Below w.heap.size w (W.alloc o) := fun W o h => bstep h (fresh_below W o)
  go_wp2_with (go_at_call 38; (with_reducible refine (C0.out _ (by first | with_reducible assumption | exact bA _ _ (by with_reducible assumption) | exact bA _ _ (bA _ _ (by with_reducible assumption)))).mono ?_); rintro e2 w2 ⟨rfl, b2⟩; have b2' : Below w.heap.size w w2 := bstep (by first | with_reducible assumption | exact bA _ _ (by with_reducible assumption) | exact bA _ _ (bA _ _ (by with_reducible assumption))) b2; clear b2)
  go_ret
  exact ⟨rfl, by assumption⟩

set_option maxHeartbeats 4000000 in
set_option maxRecDepth 100000 in
theorem n_first (w : World) (A : Option Addr) (h : None w A) (F : Value) :
    Calls Try.prog 51 #[.pointer A, F] w (Ret (.tuple #[.agg #[.int .i64 0, .int .u8 0, .int .u32 0, .int .i64 0, .int .u32 0, .int .i64 0, .int .u32 0, .int .u16 0, .int .u16 0, .int .u32 0, .int .u16 0], .bool false]) w) := by
  have c0 : ∀ W, Below w.heap.size w W → _ := fun W hW => n_none W A (h.below hW)
  have C0 := hide c0
  clear c0 h
  go_enter Try.func51, Try.ntmps51
  have d := Cells.new w #[.int .i64 0, .int .u8 0, .int .u32 0, .int .i64 0, .int .u32 0, .int .i64 0, .int .u32 0, .int .u16 0, .int .u16 0, .int .u32 0, .int .u16 0] 30
  have l0 := fresh_below w (.cells #[.int .i64 0, .int .u8 0, .int .u32 0, .int .i64 0, .int .u32 0, .int .i64 0, .int .u32 0, .int .u16 0, .int .u16 0, .int .u32 0, .int .u16 0] 30)
  have L0 := hide l0; have D0 := hide d
  clear l0 d
  go_upto_region 1 with fail
  have l0 := L0.out; have d := D0.out
  clear L0 D0
  generalize (w.alloc (.cells #[.int .i64 0, .int .u8 0, .int .u32 0, .int .i64 0, .int .u32 0, .int .i64 0, .int .u32 0, .int .u16 0, .int .u16 0, .int .u32 0, .int .u16 0] 30)) = w1 at *
  have qd_0 : ∀ W', Below w1.heap.size w1 W' → World.cell? W' ⟨w.heap.size, 0, none⟩ = some (.int .i64 0) := fun W' h => Cells.at_ (Cells.below h d) 0
  have qd_1 : ∀ W', Below w1.heap.size w1 W' → World.cell? W' ⟨w.heap.size, 1, none⟩ = some (.int .u8 0) := fun W' h => Cells.at_ (Cells.below h d) 1
  have qd_2 : ∀ W', Below w1.heap.size w1 W' → World.cell? W' ⟨w.heap.size, 2, none⟩ = some (.int .u32 0) := fun W' h => Cells.at_ (Cells.below h d) 2
  have qd_3 : ∀ W', Below w1.heap.size w1 W' → World.cell? W' ⟨w.heap.size, 3, none⟩ = some (.int .i64 0) := fun W' h => Cells.at_ (Cells.below h d) 3
  have qd_4 : ∀ W', Below w1.heap.size w1 W' → World.cell? W' ⟨w.heap.size, 4, none⟩ = some (.int .u32 0) := fun W' h => Cells.at_ (Cells.below h d) 4
  have qd_5 : ∀ W', Below w1.heap.size w1 W' → World.cell? W' ⟨w.heap.size, 5, none⟩ = some (.int .i64 0) := fun W' h => Cells.at_ (Cells.below h d) 5
  have qd_6 : ∀ W', Below w1.heap.size w1 W' → World.cell? W' ⟨w.heap.size, 6, none⟩ = some (.int .u32 0) := fun W' h => Cells.at_ (Cells.below h d) 6
  have qd_7 : ∀ W', Below w1.heap.size w1 W' → World.cell? W' ⟨w.heap.size, 7, none⟩ = some (.int .u16 0) := fun W' h => Cells.at_ (Cells.below h d) 7
  have qd_8 : ∀ W', Below w1.heap.size w1 W' → World.cell? W' ⟨w.heap.size, 8, none⟩ = some (.int .u16 0) := fun W' h => Cells.at_ (Cells.below h d) 8
  have qd_9 : ∀ W', Below w1.heap.size w1 W' → World.cell? W' ⟨w.heap.size, 9, none⟩ = some (.int .u32 0) := fun W' h => Cells.at_ (Cells.below h d) 9
  have qd_10 : ∀ W', Below w1.heap.size w1 W' → World.cell? W' ⟨w.heap.size, 10, none⟩ = some (.int .u16 0) := fun W' h => Cells.at_ (Cells.below h d) 10
  have fz : ∀ W' i, Below w1.heap.size w1 W' → World.frozen? W' ⟨w.heap.size, i, none⟩ = false := fun W' i h => Cells.free (Cells.below h d) i
  have bb : Below w1.heap.size w1 w1 := Below.refl _ _
  have L0 := hide l0; have D0 := hide d
  clear l0 d
  go_wp2_with ((go_at_call 38; (with_reducible refine (C0.out _ (bstep L0.out (by assumption))).mono ?_); rintro e2 w2 ⟨rfl, b2⟩; have b2' := bstep (by assumption : Below w1.heap.size w1 _) b2; clear b2))
  have d2 := Cells.below b2' D0.out; have l2 := bstep L0.out b2'
  clear b2' qd_0 qd_1 qd_2 qd_3 qd_4 qd_5 qd_6 qd_7 qd_8 qd_9 qd_10 fz bb L0 D0 C0
  have r5 := (Cells.put11 d2 (.int .i64 0) (.int .u8 0) (.int .u32 0) (.int .i64 0) (.int .u32 0) (.int .i64 0) (.int .u32 0) (.int .u16 0) (.int .u16 0) (.int .u32 0) (.int .u16 0))
  have b5 := (Below.put11 l2 (b := w.heap.size) (by first | exact Nat.le_refl _ | omega) (.int .i64 0) (.int .u8 0) (.int .u32 0) (.int .i64 0) (.int .u32 0) (.int .i64 0) (.int .u32 0) (.int .u16 0) (.int .u16 0) (.int .u32 0) (.int .u16 0))
  have HR5 := hide r5; have HB5 := hide b5
  clear r5 b5 d2
  generalize (((((((((((w2.setCell ⟨w.heap.size, 0, none⟩ (.int .i64 0)).setCell ⟨w.heap.size, 1, none⟩ (.int .u8 0)).setCell ⟨w.heap.size, 2, none⟩ (.int .u32 0)).setCell ⟨w.heap.size, 3, none⟩ (.int .i64 0)).setCell ⟨w.heap.size, 4, none⟩ (.int .u32 0)).setCell ⟨w.heap.size, 5, none⟩ (.int .i64 0)).setCell ⟨w.heap.size, 6, none⟩ (.int .u32 0)).setCell ⟨w.heap.size, 7, none⟩ (.int .u16 0)).setCell ⟨w.heap.size, 8, none⟩ (.int .u16 0)).setCell ⟨w.heap.size, 9, none⟩ (.int .u32 0)).setCell ⟨w.heap.size, 10, none⟩ (.int .u16 0)) = W5 at *
  have r5 := HR5.out; have b5 := HB5.out
  clear HR5 HB5
  have xr5_0 : W5.cell? ⟨w.heap.size, 0, none⟩ = some (.int .i64 0) := r5.at_ 0
  have xr5_1 : W5.cell? ⟨w.heap.size, 1, none⟩ = some (.int .u8 0) := r5.at_ 1
  have xr5_2 : W5.cell? ⟨w.heap.size, 2, none⟩ = some (.int .u32 0) := r5.at_ 2
  have xr5_3 : W5.cell? ⟨w.heap.size, 3, none⟩ = some (.int .i64 0) := r5.at_ 3
  have xr5_4 : W5.cell? ⟨w.heap.size, 4, none⟩ = some (.int .u32 0) := r5.at_ 4
  have xr5_5 : W5.cell? ⟨w.heap.size, 5, none⟩ = some (.int .i64 0) := r5.at_ 5
  have xr5_6 : W5.cell? ⟨w.heap.size, 6, none⟩ = some (.int .u32 0) := r5.at_ 6
  have xr5_7 : W5.cell? ⟨w.heap.size, 7, none⟩ = some (.int .u16 0) := r5.at_ 7
  have xr5_8 : W5.cell? ⟨w.heap.size, 8, none⟩ = some (.int .u16 0) := r5.at_ 8
  have xr5_9 : W5.cell? ⟨w.heap.size, 9, none⟩ = some (.int .u32 0) := r5.at_ 9
  have xr5_10 : W5.cell? ⟨w.heap.size, 10, none⟩ = some (.int .u16 0) := r5.at_ 10
  (try simp only [Exit.inBlock, Exit.then]); refine bodyPost_ret (by simp [results, Try.results51, go_sem, *]; try rfl) rfl ?_
  exact ⟨rfl, b5⟩

set_option maxHeartbeats 4000000 in
set_option maxRecDepth 100000 in
theorem n_Static (w : World) (A : Option Addr) (h : None w A) (p ei ep : Int) :
    Calls Try.prog 28 #[.pointer A, .int .u8 p, .agg #[.int .u32 ei, .int .u16 ep]] w (Ret (.tuple #[.agg #[.int .i64 0, .int .u8 0, .int .u32 0, .int .i64 0, .int .u32 0, .int .i64 0, .int .u32 0, .int .u16 0, .int .u16 0, .int .u32 0, .int .u16 0], .bool false]) w) := by
  have c1 : ∀ W, Below w.heap.size w W → ∀ F, _ := fun W hW F => n_first W A (h.below hW) F
  have C1 := hide c1
  clear c1 h
  go_enter Try.func28, Try.ntmps28
  have d0 := Cells.new w #[.int .u8 p] 5
  replace d0 := Cells.below (fresh_below (w.alloc (.cells #[.int .u8 p] 5)) (.cells #[.int .u32 ei, .int .u16 ep] 28)) d0
  have d1 := Cells.new (w.alloc (.cells #[.int .u8 p] 5)) #[.int .u32 ei, .int .u16 ep] 28
  replace d0 := Cells.below (fresh_below ((w.alloc (.cells #[.int .u8 p] 5)).alloc (.cells #[.int .u32 ei, .int .u16 ep] 28)) (.cells #[.int .i64 0, .int .u8 0, .int .u32 0, .int .i64 0, .int .u32 0, .int .i64 0, .int .u32 0, .int .u16 0, .int .u16 0, .int .u32 0, .int .u16 0] 30)) d0
  replace d1 := Cells.below (fresh_below ((w.alloc (.cells #[.int .u8 p] 5)).alloc (.cells #[.int .u32 ei, .int .u16 ep] 28)) (.cells #[.int .i64 0, .int .u8 0, .int .u32 0, .int .i64 0, .int .u32 0, .int .i64 0, .int .u32 0, .int .u16 0, .int .u16 0, .int .u32 0, .int .u16 0] 30)) d1
  have d2 := Cells.new ((w.alloc (.cells #[.int .u8 p] 5)).alloc (.cells #[.int .u32 ei, .int .u16 ep] 28)) #[.int .i64 0, .int .u8 0, .int .u32 0, .int .i64 0, .int .u32 0, .int .i64 0, .int .u32 0, .int .u16 0, .int .u16 0, .int .u32 0, .int .u16 0] 30
  have l0 : Below w.heap.size w (((w.alloc (.cells #[.int .u8 p] 5)).alloc (.cells #[.int .u32 ei, .int .u16 ep] 28)).alloc (.cells #[.int .i64 0, .int .u8 0, .int .u32 0, .int .i64 0, .int .u32 0, .int .i64 0, .int .u32 0, .int .u16 0, .int .u16 0, .int .u32 0, .int .u16 0] 30)) := (bstep (bstep (fresh_below _ _) (fresh_below _ _)) (fresh_below _ _))
  simp only [World.size_alloc, Nat.add_assoc] at d1 d2
  (try simp only [Nat.reduceAdd] at d1 d2)
  have L0 := hide l0; have D0 := hide d0; have D1 := hide d1; have D2 := hide d2
  clear l0 d0 d1 d2
  go_upto_region 1 with fail
  have l0 := L0.out; have d0 := D0.out; have d1 := D1.out; have d2 := D2.out
  clear L0 D0 D1 D2
  generalize (((w.alloc (.cells #[.int .u8 p] 5)).alloc (.cells #[.int .u32 ei, .int .u16 ep] 28)).alloc (.cells #[.int .i64 0, .int .u8 0, .int .u32 0, .int .i64 0, .int .u32 0, .int .i64 0, .int .u32 0, .int .u16 0, .int .u16 0, .int .u32 0, .int .u16 0] 30)) = w1 at *
  have qd2_0 : ∀ W', Below w1.heap.size w1 W' → World.cell? W' ⟨w.heap.size + 2, 0, none⟩ = some (.int .i64 0) := fun W' h => Cells.at_ (Cells.below h d2) 0
  have qd2_1 : ∀ W', Below w1.heap.size w1 W' → World.cell? W' ⟨w.heap.size + 2, 1, none⟩ = some (.int .u8 0) := fun W' h => Cells.at_ (Cells.below h d2) 1
  have qd2_2 : ∀ W', Below w1.heap.size w1 W' → World.cell? W' ⟨w.heap.size + 2, 2, none⟩ = some (.int .u32 0) := fun W' h => Cells.at_ (Cells.below h d2) 2
  have qd2_3 : ∀ W', Below w1.heap.size w1 W' → World.cell? W' ⟨w.heap.size + 2, 3, none⟩ = some (.int .i64 0) := fun W' h => Cells.at_ (Cells.below h d2) 3
  have qd2_4 : ∀ W', Below w1.heap.size w1 W' → World.cell? W' ⟨w.heap.size + 2, 4, none⟩ = some (.int .u32 0) := fun W' h => Cells.at_ (Cells.below h d2) 4
  have qd2_5 : ∀ W', Below w1.heap.size w1 W' → World.cell? W' ⟨w.heap.size + 2, 5, none⟩ = some (.int .i64 0) := fun W' h => Cells.at_ (Cells.below h d2) 5
  have qd2_6 : ∀ W', Below w1.heap.size w1 W' → World.cell? W' ⟨w.heap.size + 2, 6, none⟩ = some (.int .u32 0) := fun W' h => Cells.at_ (Cells.below h d2) 6
  have qd2_7 : ∀ W', Below w1.heap.size w1 W' → World.cell? W' ⟨w.heap.size + 2, 7, none⟩ = some (.int .u16 0) := fun W' h => Cells.at_ (Cells.below h d2) 7
  have qd2_8 : ∀ W', Below w1.heap.size w1 W' → World.cell? W' ⟨w.heap.size + 2, 8, none⟩ = some (.int .u16 0) := fun W' h => Cells.at_ (Cells.below h d2) 8
  have qd2_9 : ∀ W', Below w1.heap.size w1 W' → World.cell? W' ⟨w.heap.size + 2, 9, none⟩ = some (.int .u32 0) := fun W' h => Cells.at_ (Cells.below h d2) 9
  have qd2_10 : ∀ W', Below w1.heap.size w1 W' → World.cell? W' ⟨w.heap.size + 2, 10, none⟩ = some (.int .u16 0) := fun W' h => Cells.at_ (Cells.below h d2) 10
  have fz : ∀ W' i, Below w1.heap.size w1 W' → World.frozen? W' ⟨w.heap.size + 2, i, none⟩ = false := fun W' i h => Cells.free (Cells.below h d2) i
  have bb : Below w1.heap.size w1 w1 := Below.refl _ _
  have L0 := hide l0; have D0 := hide d0; have D1 := hide d1; have D2 := hide d2
  clear l0 d0 d1 d2
  go_wp2_with ((go_at_call 51; (with_reducible refine (C1.out _ (bstep L0.out (by assumption)) _).mono ?_); rintro e2 w2 ⟨rfl, b2⟩; have b2' := bstep (by assumption : Below w1.heap.size w1 _) b2; clear b2))
  have d2 := Cells.below b2' D2.out; have l2 := bstep L0.out b2'
  clear b2' qd2_0 qd2_1 qd2_2 qd2_3 qd2_4 qd2_5 qd2_6 qd2_7 qd2_8 qd2_9 qd2_10 fz bb L0 D0 D1 D2 C1
  have r5 := (Cells.put11 d2 (.int .i64 0) (.int .u8 0) (.int .u32 0) (.int .i64 0) (.int .u32 0) (.int .i64 0) (.int .u32 0) (.int .u16 0) (.int .u16 0) (.int .u32 0) (.int .u16 0))
  have b5 := (Below.put11 l2 (b := w.heap.size + 2) (by first | exact Nat.le_refl _ | omega) (.int .i64 0) (.int .u8 0) (.int .u32 0) (.int .i64 0) (.int .u32 0) (.int .i64 0) (.int .u32 0) (.int .u16 0) (.int .u16 0) (.int .u32 0) (.int .u16 0))
  have HR5 := hide r5; have HB5 := hide b5
  clear r5 b5 d2
  generalize (((((((((((w2.setCell ⟨w.heap.size + 2, 0, none⟩ (.int .i64 0)).setCell ⟨w.heap.size + 2, 1, none⟩ (.int .u8 0)).setCell ⟨w.heap.size + 2, 2, none⟩ (.int .u32 0)).setCell ⟨w.heap.size + 2, 3, none⟩ (.int .i64 0)).setCell ⟨w.heap.size + 2, 4, none⟩ (.int .u32 0)).setCell ⟨w.heap.size + 2, 5, none⟩ (.int .i64 0)).setCell ⟨w.heap.size + 2, 6, none⟩ (.int .u32 0)).setCell ⟨w.heap.size + 2, 7, none⟩ (.int .u16 0)).setCell ⟨w.heap.size + 2, 8, none⟩ (.int .u16 0)).setCell ⟨w.heap.size + 2, 9, none⟩ (.int .u32 0)).setCell ⟨w.heap.size + 2, 10, none⟩ (.int .u16 0)) = W5 at *
  have r5 := HR5.out; have b5 := HB5.out
  clear HR5 HB5
  have xr5_0 : W5.cell? ⟨w.heap.size + 2, 0, none⟩ = some (.int .i64 0) := r5.at_ 0
  have xr5_1 : W5.cell? ⟨w.heap.size + 2, 1, none⟩ = some (.int .u8 0) := r5.at_ 1
  have xr5_2 : W5.cell? ⟨w.heap.size + 2, 2, none⟩ = some (.int .u32 0) := r5.at_ 2
  have xr5_3 : W5.cell? ⟨w.heap.size + 2, 3, none⟩ = some (.int .i64 0) := r5.at_ 3
  have xr5_4 : W5.cell? ⟨w.heap.size + 2, 4, none⟩ = some (.int .u32 0) := r5.at_ 4
  have xr5_5 : W5.cell? ⟨w.heap.size + 2, 5, none⟩ = some (.int .i64 0) := r5.at_ 5
  have xr5_6 : W5.cell? ⟨w.heap.size + 2, 6, none⟩ = some (.int .u32 0) := r5.at_ 6
  have xr5_7 : W5.cell? ⟨w.heap.size + 2, 7, none⟩ = some (.int .u16 0) := r5.at_ 7
  have xr5_8 : W5.cell? ⟨w.heap.size + 2, 8, none⟩ = some (.int .u16 0) := r5.at_ 8
  have xr5_9 : W5.cell? ⟨w.heap.size + 2, 9, none⟩ = some (.int .u32 0) := r5.at_ 9
  have xr5_10 : W5.cell? ⟨w.heap.size + 2, 10, none⟩ = some (.int .u16 0) := r5.at_ 10
  (try simp only [Exit.inBlock, Exit.then]); refine bodyPost_ret (by simp [results, Try.results28, go_sem, *]; try rfl) rfl ?_
  exact ⟨rfl, b5⟩

set_option maxHeartbeats 4000000 in
set_option maxRecDepth 100000 in
theorem n_Own (w : World) (A : Option Addr) (h : None w A) (p ei ep : Int) :
    Calls Try.prog 29 #[.pointer A, .int .u8 p, .agg #[.int .u32 ei, .int .u16 ep]] w (Ret (.tuple #[.agg #[.int .i64 0, .int .u8 0, .int .u32 0, .int .i64 0, .int .u32 0, .int .i64 0, .int .u32 0, .int .u16 0, .int .u16 0, .int .u32 0, .int .u16 0], .bool false]) w) := by
  have c1 : ∀ W, Below w.heap.size w W → ∀ F, _ := fun W hW F => n_first W A (h.below hW) F
  have C1 := hide c1
  clear c1 h
  go_enter Try.func29, Try.ntmps29
  have d0 := Cells.new w #[.int .u8 p] 5
  replace d0 := Cells.below (fresh_below (w.alloc (.cells #[.int .u8 p] 5)) (.cells #[.int .u32 ei, .int .u16 ep] 28)) d0
  have d1 := Cells.new (w.alloc (.cells #[.int .u8 p] 5)) #[.int .u32 ei, .int .u16 ep] 28
  replace d0 := Cells.below (fresh_below ((w.alloc (.cells #[.int .u8 p] 5)).alloc (.cells #[.int .u32 ei, .int .u16 ep] 28)) (.cells #[.int .i64 0, .int .u8 0, .int .u32 0, .int .i64 0, .int .u32 0, .int .i64 0, .int .u32 0, .int .u16 0, .int .u16 0, .int .u32 0, .int .u16 0] 30)) d0
  replace d1 := Cells.below (fresh_below ((w.alloc (.cells #[.int .u8 p] 5)).alloc (.cells #[.int .u32 ei, .int .u16 ep] 28)) (.cells #[.int .i64 0, .int .u8 0, .int .u32 0, .int .i64 0, .int .u32 0, .int .i64 0, .int .u32 0, .int .u16 0, .int .u16 0, .int .u32 0, .int .u16 0] 30)) d1
  have d2 := Cells.new ((w.alloc (.cells #[.int .u8 p] 5)).alloc (.cells #[.int .u32 ei, .int .u16 ep] 28)) #[.int .i64 0, .int .u8 0, .int .u32 0, .int .i64 0, .int .u32 0, .int .i64 0, .int .u32 0, .int .u16 0, .int .u16 0, .int .u32 0, .int .u16 0] 30
  have l0 : Below w.heap.size w (((w.alloc (.cells #[.int .u8 p] 5)).alloc (.cells #[.int .u32 ei, .int .u16 ep] 28)).alloc (.cells #[.int .i64 0, .int .u8 0, .int .u32 0, .int .i64 0, .int .u32 0, .int .i64 0, .int .u32 0, .int .u16 0, .int .u16 0, .int .u32 0, .int .u16 0] 30)) := (bstep (bstep (fresh_below _ _) (fresh_below _ _)) (fresh_below _ _))
  simp only [World.size_alloc, Nat.add_assoc] at d1 d2
  (try simp only [Nat.reduceAdd] at d1 d2)
  have L0 := hide l0; have D0 := hide d0; have D1 := hide d1; have D2 := hide d2
  clear l0 d0 d1 d2
  go_upto_region 1 with fail
  have l0 := L0.out; have d0 := D0.out; have d1 := D1.out; have d2 := D2.out
  clear L0 D0 D1 D2
  generalize (((w.alloc (.cells #[.int .u8 p] 5)).alloc (.cells #[.int .u32 ei, .int .u16 ep] 28)).alloc (.cells #[.int .i64 0, .int .u8 0, .int .u32 0, .int .i64 0, .int .u32 0, .int .i64 0, .int .u32 0, .int .u16 0, .int .u16 0, .int .u32 0, .int .u16 0] 30)) = w1 at *
  have qd2_0 : ∀ W', Below w1.heap.size w1 W' → World.cell? W' ⟨w.heap.size + 2, 0, none⟩ = some (.int .i64 0) := fun W' h => Cells.at_ (Cells.below h d2) 0
  have qd2_1 : ∀ W', Below w1.heap.size w1 W' → World.cell? W' ⟨w.heap.size + 2, 1, none⟩ = some (.int .u8 0) := fun W' h => Cells.at_ (Cells.below h d2) 1
  have qd2_2 : ∀ W', Below w1.heap.size w1 W' → World.cell? W' ⟨w.heap.size + 2, 2, none⟩ = some (.int .u32 0) := fun W' h => Cells.at_ (Cells.below h d2) 2
  have qd2_3 : ∀ W', Below w1.heap.size w1 W' → World.cell? W' ⟨w.heap.size + 2, 3, none⟩ = some (.int .i64 0) := fun W' h => Cells.at_ (Cells.below h d2) 3
  have qd2_4 : ∀ W', Below w1.heap.size w1 W' → World.cell? W' ⟨w.heap.size + 2, 4, none⟩ = some (.int .u32 0) := fun W' h => Cells.at_ (Cells.below h d2) 4
  have qd2_5 : ∀ W', Below w1.heap.size w1 W' → World.cell? W' ⟨w.heap.size + 2, 5, none⟩ = some (.int .i64 0) := fun W' h => Cells.at_ (Cells.below h d2) 5
  have qd2_6 : ∀ W', Below w1.heap.size w1 W' → World.cell? W' ⟨w.heap.size + 2, 6, none⟩ = some (.int .u32 0) := fun W' h => Cells.at_ (Cells.below h d2) 6
  have qd2_7 : ∀ W', Below w1.heap.size w1 W' → World.cell? W' ⟨w.heap.size + 2, 7, none⟩ = some (.int .u16 0) := fun W' h => Cells.at_ (Cells.below h d2) 7
  have qd2_8 : ∀ W', Below w1.heap.size w1 W' → World.cell? W' ⟨w.heap.size + 2, 8, none⟩ = some (.int .u16 0) := fun W' h => Cells.at_ (Cells.below h d2) 8
  have qd2_9 : ∀ W', Below w1.heap.size w1 W' → World.cell? W' ⟨w.heap.size + 2, 9, none⟩ = some (.int .u32 0) := fun W' h => Cells.at_ (Cells.below h d2) 9
  have qd2_10 : ∀ W', Below w1.heap.size w1 W' → World.cell? W' ⟨w.heap.size + 2, 10, none⟩ = some (.int .u16 0) := fun W' h => Cells.at_ (Cells.below h d2) 10
  have fz : ∀ W' i, Below w1.heap.size w1 W' → World.frozen? W' ⟨w.heap.size + 2, i, none⟩ = false := fun W' i h => Cells.free (Cells.below h d2) i
  have bb : Below w1.heap.size w1 w1 := Below.refl _ _
  have L0 := hide l0; have D0 := hide d0; have D1 := hide d1; have D2 := hide d2
  clear l0 d0 d1 d2
  go_wp2_with ((go_at_call 51; (with_reducible refine (C1.out _ (bstep L0.out (by assumption)) _).mono ?_); rintro e2 w2 ⟨rfl, b2⟩; have b2' := bstep (by assumption : Below w1.heap.size w1 _) b2; clear b2))
  have d2 := Cells.below b2' D2.out; have l2 := bstep L0.out b2'
  clear b2' qd2_0 qd2_1 qd2_2 qd2_3 qd2_4 qd2_5 qd2_6 qd2_7 qd2_8 qd2_9 qd2_10 fz bb L0 D0 D1 D2 C1
  have r5 := (Cells.put11 d2 (.int .i64 0) (.int .u8 0) (.int .u32 0) (.int .i64 0) (.int .u32 0) (.int .i64 0) (.int .u32 0) (.int .u16 0) (.int .u16 0) (.int .u32 0) (.int .u16 0))
  have b5 := (Below.put11 l2 (b := w.heap.size + 2) (by first | exact Nat.le_refl _ | omega) (.int .i64 0) (.int .u8 0) (.int .u32 0) (.int .i64 0) (.int .u32 0) (.int .i64 0) (.int .u32 0) (.int .u16 0) (.int .u16 0) (.int .u32 0) (.int .u16 0))
  have HR5 := hide r5; have HB5 := hide b5
  clear r5 b5 d2
  generalize (((((((((((w2.setCell ⟨w.heap.size + 2, 0, none⟩ (.int .i64 0)).setCell ⟨w.heap.size + 2, 1, none⟩ (.int .u8 0)).setCell ⟨w.heap.size + 2, 2, none⟩ (.int .u32 0)).setCell ⟨w.heap.size + 2, 3, none⟩ (.int .i64 0)).setCell ⟨w.heap.size + 2, 4, none⟩ (.int .u32 0)).setCell ⟨w.heap.size + 2, 5, none⟩ (.int .i64 0)).setCell ⟨w.heap.size + 2, 6, none⟩ (.int .u32 0)).setCell ⟨w.heap.size + 2, 7, none⟩ (.int .u16 0)).setCell ⟨w.heap.size + 2, 8, none⟩ (.int .u16 0)).setCell ⟨w.heap.size + 2, 9, none⟩ (.int .u32 0)).setCell ⟨w.heap.size + 2, 10, none⟩ (.int .u16 0)) = W5 at *
  have r5 := HR5.out; have b5 := HB5.out
  clear HR5 HB5
  have xr5_0 : W5.cell? ⟨w.heap.size + 2, 0, none⟩ = some (.int .i64 0) := r5.at_ 0
  have xr5_1 : W5.cell? ⟨w.heap.size + 2, 1, none⟩ = some (.int .u8 0) := r5.at_ 1
  have xr5_2 : W5.cell? ⟨w.heap.size + 2, 2, none⟩ = some (.int .u32 0) := r5.at_ 2
  have xr5_3 : W5.cell? ⟨w.heap.size + 2, 3, none⟩ = some (.int .i64 0) := r5.at_ 3
  have xr5_4 : W5.cell? ⟨w.heap.size + 2, 4, none⟩ = some (.int .u32 0) := r5.at_ 4
  have xr5_5 : W5.cell? ⟨w.heap.size + 2, 5, none⟩ = some (.int .i64 0) := r5.at_ 5
  have xr5_6 : W5.cell? ⟨w.heap.size + 2, 6, none⟩ = some (.int .u32 0) := r5.at_ 6
  have xr5_7 : W5.cell? ⟨w.heap.size + 2, 7, none⟩ = some (.int .u16 0) := r5.at_ 7
  have xr5_8 : W5.cell? ⟨w.heap.size + 2, 8, none⟩ = some (.int .u16 0) := r5.at_ 8
  have xr5_9 : W5.cell? ⟨w.heap.size + 2, 9, none⟩ = some (.int .u32 0) := r5.at_ 9
  have xr5_10 : W5.cell? ⟨w.heap.size + 2, 10, none⟩ = some (.int .u16 0) := r5.at_ 10
  (try simp only [Exit.inBlock, Exit.then]); refine bodyPost_ret (by simp [results, Try.results29, go_sem, *]; try rfl) rfl ?_
  exact ⟨rfl, b5⟩

set_option maxHeartbeats 4000000 in
set_option maxRecDepth 100000 in
theorem n_Source (w : World) (A : Option Addr) (h : None w A) (p si sp di dp : Int) :
    Calls Try.prog 23 #[.pointer A, .agg #[.int .u8 p, .int .u32 si, .int .u16 sp, .int .u32 di, .int .u16 dp]] w (Ret (.tuple #[.agg #[.int .i64 0, .int .u8 0, .int .u32 0, .int .i64 0, .int .u32 0, .int .i64 0, .int .u32 0, .int .u16 0, .int .u16 0, .int .u32 0, .int .u16 0], .bool false]) w) := by
  have c1 : ∀ W, Below w.heap.size w W → ∀ F, _ := fun W hW F => n_first W A (h.below hW) F
  have C1 := hide c1
  clear c1 h
  go_enter Try.func23, Try.ntmps23
  have d0 := Cells.new w #[.int .u8 p, .int .u32 si, .int .u16 sp, .int .u32 di, .int .u16 dp] 49
  replace d0 := Cells.below (fresh_below (w.alloc (.cells #[.int .u8 p, .int .u32 si, .int .u16 sp, .int .u32 di, .int .u16 dp] 49)) (.cells #[.int .i64 0, .int .u8 0, .int .u32 0, .int .i64 0, .int .u32 0, .int .i64 0, .int .u32 0, .int .u16 0, .int .u16 0, .int .u32 0, .int .u16 0] 30)) d0
  have d1 := Cells.new (w.alloc (.cells #[.int .u8 p, .int .u32 si, .int .u16 sp, .int .u32 di, .int .u16 dp] 49)) #[.int .i64 0, .int .u8 0, .int .u32 0, .int .i64 0, .int .u32 0, .int .i64 0, .int .u32 0, .int .u16 0, .int .u16 0, .int .u32 0, .int .u16 0] 30
  have l0 : Below w.heap.size w ((w.alloc (.cells #[.int .u8 p, .int .u32 si, .int .u16 sp, .int .u32 di, .int .u16 dp] 49)).alloc (.cells #[.int .i64 0, .int .u8 0, .int .u32 0, .int .i64 0, .int .u32 0, .int .i64 0, .int .u32 0, .int .u16 0, .int .u16 0, .int .u32 0, .int .u16 0] 30)) := (bstep (fresh_below _ _) (fresh_below _ _))
  simp only [World.size_alloc, Nat.add_assoc] at d1
  (try simp only [Nat.reduceAdd] at d1)
  have L0 := hide l0; have D0 := hide d0; have D1 := hide d1
  clear l0 d0 d1
  go_upto_region 1 with fail
  have l0 := L0.out; have d0 := D0.out; have d1 := D1.out
  clear L0 D0 D1
  generalize ((w.alloc (.cells #[.int .u8 p, .int .u32 si, .int .u16 sp, .int .u32 di, .int .u16 dp] 49)).alloc (.cells #[.int .i64 0, .int .u8 0, .int .u32 0, .int .i64 0, .int .u32 0, .int .i64 0, .int .u32 0, .int .u16 0, .int .u16 0, .int .u32 0, .int .u16 0] 30)) = w1 at *
  have qd1_0 : ∀ W', Below w1.heap.size w1 W' → World.cell? W' ⟨w.heap.size + 1, 0, none⟩ = some (.int .i64 0) := fun W' h => Cells.at_ (Cells.below h d1) 0
  have qd1_1 : ∀ W', Below w1.heap.size w1 W' → World.cell? W' ⟨w.heap.size + 1, 1, none⟩ = some (.int .u8 0) := fun W' h => Cells.at_ (Cells.below h d1) 1
  have qd1_2 : ∀ W', Below w1.heap.size w1 W' → World.cell? W' ⟨w.heap.size + 1, 2, none⟩ = some (.int .u32 0) := fun W' h => Cells.at_ (Cells.below h d1) 2
  have qd1_3 : ∀ W', Below w1.heap.size w1 W' → World.cell? W' ⟨w.heap.size + 1, 3, none⟩ = some (.int .i64 0) := fun W' h => Cells.at_ (Cells.below h d1) 3
  have qd1_4 : ∀ W', Below w1.heap.size w1 W' → World.cell? W' ⟨w.heap.size + 1, 4, none⟩ = some (.int .u32 0) := fun W' h => Cells.at_ (Cells.below h d1) 4
  have qd1_5 : ∀ W', Below w1.heap.size w1 W' → World.cell? W' ⟨w.heap.size + 1, 5, none⟩ = some (.int .i64 0) := fun W' h => Cells.at_ (Cells.below h d1) 5
  have qd1_6 : ∀ W', Below w1.heap.size w1 W' → World.cell? W' ⟨w.heap.size + 1, 6, none⟩ = some (.int .u32 0) := fun W' h => Cells.at_ (Cells.below h d1) 6
  have qd1_7 : ∀ W', Below w1.heap.size w1 W' → World.cell? W' ⟨w.heap.size + 1, 7, none⟩ = some (.int .u16 0) := fun W' h => Cells.at_ (Cells.below h d1) 7
  have qd1_8 : ∀ W', Below w1.heap.size w1 W' → World.cell? W' ⟨w.heap.size + 1, 8, none⟩ = some (.int .u16 0) := fun W' h => Cells.at_ (Cells.below h d1) 8
  have qd1_9 : ∀ W', Below w1.heap.size w1 W' → World.cell? W' ⟨w.heap.size + 1, 9, none⟩ = some (.int .u32 0) := fun W' h => Cells.at_ (Cells.below h d1) 9
  have qd1_10 : ∀ W', Below w1.heap.size w1 W' → World.cell? W' ⟨w.heap.size + 1, 10, none⟩ = some (.int .u16 0) := fun W' h => Cells.at_ (Cells.below h d1) 10
  have fz : ∀ W' i, Below w1.heap.size w1 W' → World.frozen? W' ⟨w.heap.size + 1, i, none⟩ = false := fun W' i h => Cells.free (Cells.below h d1) i
  have bb : Below w1.heap.size w1 w1 := Below.refl _ _
  have L0 := hide l0; have D0 := hide d0; have D1 := hide d1
  clear l0 d0 d1
  go_wp2_with ((go_at_call 51; (with_reducible refine (C1.out _ (bstep L0.out (by assumption)) _).mono ?_); rintro e2 w2 ⟨rfl, b2⟩; have b2' := bstep (by assumption : Below w1.heap.size w1 _) b2; clear b2))
  have d2 := Cells.below b2' D1.out; have l2 := bstep L0.out b2'
  clear b2' qd1_0 qd1_1 qd1_2 qd1_3 qd1_4 qd1_5 qd1_6 qd1_7 qd1_8 qd1_9 qd1_10 fz bb L0 D0 D1 C1
  have r5 := (Cells.put11 d2 (.int .i64 0) (.int .u8 0) (.int .u32 0) (.int .i64 0) (.int .u32 0) (.int .i64 0) (.int .u32 0) (.int .u16 0) (.int .u16 0) (.int .u32 0) (.int .u16 0))
  have b5 := (Below.put11 l2 (b := w.heap.size + 1) (by first | exact Nat.le_refl _ | omega) (.int .i64 0) (.int .u8 0) (.int .u32 0) (.int .i64 0) (.int .u32 0) (.int .i64 0) (.int .u32 0) (.int .u16 0) (.int .u16 0) (.int .u32 0) (.int .u16 0))
  have HR5 := hide r5; have HB5 := hide b5
  clear r5 b5 d2
  generalize (((((((((((w2.setCell ⟨w.heap.size + 1, 0, none⟩ (.int .i64 0)).setCell ⟨w.heap.size + 1, 1, none⟩ (.int .u8 0)).setCell ⟨w.heap.size + 1, 2, none⟩ (.int .u32 0)).setCell ⟨w.heap.size + 1, 3, none⟩ (.int .i64 0)).setCell ⟨w.heap.size + 1, 4, none⟩ (.int .u32 0)).setCell ⟨w.heap.size + 1, 5, none⟩ (.int .i64 0)).setCell ⟨w.heap.size + 1, 6, none⟩ (.int .u32 0)).setCell ⟨w.heap.size + 1, 7, none⟩ (.int .u16 0)).setCell ⟨w.heap.size + 1, 8, none⟩ (.int .u16 0)).setCell ⟨w.heap.size + 1, 9, none⟩ (.int .u32 0)).setCell ⟨w.heap.size + 1, 10, none⟩ (.int .u16 0)) = W5 at *
  have r5 := HR5.out; have b5 := HB5.out
  clear HR5 HB5
  have xr5_0 : W5.cell? ⟨w.heap.size + 1, 0, none⟩ = some (.int .i64 0) := r5.at_ 0
  have xr5_1 : W5.cell? ⟨w.heap.size + 1, 1, none⟩ = some (.int .u8 0) := r5.at_ 1
  have xr5_2 : W5.cell? ⟨w.heap.size + 1, 2, none⟩ = some (.int .u32 0) := r5.at_ 2
  have xr5_3 : W5.cell? ⟨w.heap.size + 1, 3, none⟩ = some (.int .i64 0) := r5.at_ 3
  have xr5_4 : W5.cell? ⟨w.heap.size + 1, 4, none⟩ = some (.int .u32 0) := r5.at_ 4
  have xr5_5 : W5.cell? ⟨w.heap.size + 1, 5, none⟩ = some (.int .i64 0) := r5.at_ 5
  have xr5_6 : W5.cell? ⟨w.heap.size + 1, 6, none⟩ = some (.int .u32 0) := r5.at_ 6
  have xr5_7 : W5.cell? ⟨w.heap.size + 1, 7, none⟩ = some (.int .u16 0) := r5.at_ 7
  have xr5_8 : W5.cell? ⟨w.heap.size + 1, 8, none⟩ = some (.int .u16 0) := r5.at_ 8
  have xr5_9 : W5.cell? ⟨w.heap.size + 1, 9, none⟩ = some (.int .u32 0) := r5.at_ 9
  have xr5_10 : W5.cell? ⟨w.heap.size + 1, 10, none⟩ = some (.int .u16 0) := r5.at_ 10
  (try simp only [Exit.inBlock, Exit.then]); refine bodyPost_ret (by simp [results, Try.results23, go_sem, *]; try rfl) rfl ?_
  exact ⟨rfl, b5⟩
end Go.Proofs.Ytbboajhdijabbaa
