/- rules: Copy, New. -/
import Derived.Test.YtbboajhdijabbaaRule18
set_option linter.unusedVariables false
set_option linter.unusedSimpArgs false
namespace Go.Proofs.Ytbboajhdijabbaa
open Go.RowKit Go.Lib
attribute [local go_sem] Oper.semAt_some

theorem Cells.put5 {w : World} {b : Nat} {a0 a1 a2 a3 a4 : Value} {T : TypeId} (h : Cells w b #[a0, a1, a2, a3, a4] T) (v0 v1 v2 v3 v4 : Value) : Cells (((((w.setCell ⟨b, 0, none⟩ v0).setCell ⟨b, 1, none⟩ v1).setCell ⟨b, 2, none⟩ v2).setCell ⟨b, 3, none⟩ v3).setCell ⟨b, 4, none⟩ v4) b #[v0, v1, v2, v3, v4] T := by
  have h0 : Cells (w.setCell ⟨b, 0, none⟩ v0) b #[v0, a1, a2, a3, a4] T := h.set_ 0 v0
  have h1 : Cells ((w.setCell ⟨b, 0, none⟩ v0).setCell ⟨b, 1, none⟩ v1) b #[v0, v1, a2, a3, a4] T := h0.set_ 1 v1
  have h2 : Cells (((w.setCell ⟨b, 0, none⟩ v0).setCell ⟨b, 1, none⟩ v1).setCell ⟨b, 2, none⟩ v2) b #[v0, v1, v2, a3, a4] T := h1.set_ 2 v2
  have h3 : Cells ((((w.setCell ⟨b, 0, none⟩ v0).setCell ⟨b, 1, none⟩ v1).setCell ⟨b, 2, none⟩ v2).setCell ⟨b, 3, none⟩ v3) b #[v0, v1, v2, v3, a4] T := h2.set_ 3 v3
  exact h3.set_ 4 v4
theorem Below.put5 {w w' : World} {n b : Nat} (h : Below n w w') (hb : n ≤ b) (v0 v1 v2 v3 v4 : Value) : Below n w (((((w'.setCell ⟨b, 0, none⟩ v0).setCell ⟨b, 1, none⟩ v1).setCell ⟨b, 2, none⟩ v2).setCell ⟨b, 3, none⟩ v3).setCell ⟨b, 4, none⟩ v4) := Below.setCell (Below.setCell (Below.setCell (Below.setCell (Below.setCell h (p := ⟨b, 0, none⟩) hb v0) (p := ⟨b, 1, none⟩) hb v1) (p := ⟨b, 2, none⟩) hb v2) (p := ⟨b, 3, none⟩) hb v3) (p := ⟨b, 4, none⟩) hb v4

set_option maxHeartbeats 4000000 in
set_option maxRecDepth 100000 in
theorem t_Copy (w : World) (B : Nat) (o ip b : Int) (v : Value) (l : List Rule) (h : TS w B o ip b l v) (hl : l.length ≤ 1000) :
    Calls Try.prog 32 #[.pointer (some ⟨B, 0, none⟩)] w fun e w' => ∃ B' v', e = .returned (.pointer (some ⟨B', 0, none⟩)) ∧ TS w' B' o ip b l v' ∧ Below w.heap.size w w' ∧ w.heap.size ≤ B' ∧ Fresh w.heap.size v' := by
  obtain ⟨A, c, hv⟩ := slice_of h.row
  have c0 : ∀ W, Below w.heap.size w W → Calls Try.prog 38 #[.pointer (some ⟨B, 0, none⟩)] W (Ret (.bool false) W) := fun W hW => t_none W B o ip b v (Tbl.below h.tbl hW)
  have c1 : ∀ W, Below w.heap.size w W → _ := fun W hW => CloneRR v l W (RR.below h.row hW) hl
  have hT := h.tbl
  obtain ⟨n, hnn⟩ : ∃ n, n = l.length := ⟨_, rfl⟩
  rw [hv, ← hnn] at hT c1
  have hBlt : B < w.heap.size := Cells.lt h.tbl
  have C0 := hide c0; have C1 := hide c1; have HT := hide hT; have HB := hide hBlt
  clear c0 h c1 hl hnn hv hBlt
  have qhT_0 : ∀ W', Below w.heap.size w W' → World.cell? W' ⟨B, 0, none⟩ = some (.bool true) := fun W' h => Cells.at_ (Cells.below h hT) 0
  have qhT_1 : ∀ W', Below w.heap.size w W' → World.cell? W' ⟨B, 1, none⟩ = some (.int .u32 o) := fun W' h => Cells.at_ (Cells.below h hT) 1
  have qhT_2 : ∀ W', Below w.heap.size w W' → World.cell? W' ⟨B, 2, none⟩ = some (.int .u32 ip) := fun W' h => Cells.at_ (Cells.below h hT) 2
  have qhT_3 : ∀ W', Below w.heap.size w W' → World.cell? W' ⟨B, 3, none⟩ = some (.int .i64 b) := fun W' h => Cells.at_ (Cells.below h hT) 3
  have qhT_4 : ∀ W', Below w.heap.size w W' → World.cell? W' ⟨B, 4, none⟩ = some (.slice A n c) := fun W' h => Cells.at_ (Cells.below h hT) 4
  clear hT
  go_enter Try.func32, Try.ntmps32
  have bb : Below w.heap.size w w := Below.refl _ _
  have bA : ∀ W o, Below w.heap.size w W → Below w.heap.size w (W.alloc o) := fun W o h => bstep h (fresh_below W o)
  go_upto_region 4 with ((go_at_call 38; (with_reducible refine (C0.out _ (by assumption)).mono ?_); rintro e2 w2 ⟨rfl, b2⟩; have b2' := bstep (by assumption : Below w.heap.size w _) b2; clear b2))
  have d := Cells.new w2 #[.bool true, .int .u32 o, .int .u32 ip, .int .i64 b, .slice A n c] 71
  have l0 := bA w2 (.cells #[.bool true, .int .u32 o, .int .u32 ip, .int .i64 b, .slice A n c] 71) b2'
  generalize (w2.alloc (.cells #[.bool true, .int .u32 o, .int .u32 ip, .int .i64 b, .slice A n c] 71)) = w3 at *
  have C1' := hide (fun (W : World) (hW : Below w.heap.size w W) => (C1.out W hW).mono (R' := fun e w7 => ∃ A' n' c', e = .returned (.slice A' n' c') ∧ RR w7 (.slice A' n' c') l ∧ Below W.heap.size W w7 ∧ Fresh W.heap.size (.slice A' n' c')) (by
    rintro e w7 ⟨v', rfl, r7, b7, f7⟩
    obtain ⟨A', c', rfl⟩ := slice_of r7
    exact ⟨A', _, c', rfl, r7, b7, f7⟩))
  have D0 := hide d; have L0 := hide l0
  have s2 := b2'.size
  have S2 := hide s2
  clear d s2 C1
  go_wp2_with (go_at_call 50; refine (C1'.out _ (by assumption)).mono ?_; rintro e w7 ⟨A', n', c', rfl, r7, b7, f7⟩; have T7 := Cells.below b7 D0.out; have x4 : w7.cell? ⟨w2.heap.size, 4, none⟩ = some (.slice A n c) := Cells.at_ T7 4; have y4 := Cells.free T7 4)
  go_ret
  have hlt : w2.heap.size < w3.heap.size := Cells.lt D0.out
  have nb : ∀ g, (Value.slice A' n' c').ownBlock = some g → g ≠ w2.heap.size := fun g hg => by have := f7 g hg; omega
  refine ⟨_, _, rfl, ⟨Cells.set_ T7 4 _, r7.same fun g hg => Below.heap_setCell _ ⟨w2.heap.size, 4, none⟩ _ g (nb g hg), fun e => nb _ e rfl⟩, Below.setCell (bstep L0.out b7) S2.out _, S2.out, fun g hg => ?_⟩
  have := f7 g hg
  have := S2.out
  omega

/-- a new table -/
def newOk (o ip b : Int) : Bool := mayP ip b && !hasP ip b o
set_option maxHeartbeats 4000000 in
set_option maxRecDepth 100000 in
theorem t_New (w : World) (o ip b : Int) (hi : 0 ≤ ip ∧ ip ≤ 4294967295) (ho : 0 ≤ o ∧ o ≤ 4294967295) :
    Calls Try.prog 9 #[.int .u32 o, .agg #[.int .u32 ip, .int .i64 b]] w fun e w' => if newOk o ip b = true then ∃ B', e = .returned (.tuple #[.pointer (some ⟨B', 0, none⟩), .int .i64 0]) ∧ TS w' B' o ip b [] (.slice none 0 0) ∧ Below w.heap.size w w' ∧ w.heap.size ≤ B' else e = .returned (.tuple #[.pointer none, .int .i64 2]) ∧ Below w.heap.size w w' := by
  have c0 := fun W => addrs_May ip b W hi
  have c1 := fun W => addrs_Has ip b o W hi ho
  unfold newOk
  generalize mayP ip b = q1 at *
  generalize hasP ip b o = q2 at *
  have C0 := hide c0; have C1 := hide c1
  clear c0 c1 hi ho
  cases q1 <;> cases q2
  all_goals
    simp only [Bool.false_and, Bool.true_and, Bool.not_true, Bool.not_false, Bool.false_eq_true, if_true, if_false]
    go_enter Try.func9, Try.ntmps9
    have d := Cells.new w #[.int .u32 ip, .int .i64 b] 25
    have l0 := fresh_below w (.cells #[.int .u32 ip, .int .i64 b] 25)
    have L0 := hide l0; have D0 := hide d
    clear l0 d
    go_upto_region 1 with fail
    have l0 := L0.out; have d := D0.out
    clear L0 D0
    generalize (w.alloc (.cells #[.int .u32 ip, .int .i64 b] 25)) = w1 at *
    have qd_0 : ∀ W', Below w1.heap.size w1 W' → World.cell? W' ⟨w.heap.size, 0, none⟩ = some (.int .u32 ip) := fun W' h => Cells.at_ (Cells.below h d) 0
    have qd_1 : ∀ W', Below w1.heap.size w1 W' → World.cell? W' ⟨w.heap.size, 1, none⟩ = some (.int .i64 b) := fun W' h => Cells.at_ (Cells.below h d) 1
    have bb : Below w1.heap.size w1 w1 := Below.refl _ _
    have L0 := hide l0
    clear l0 d
    go_wp2_with (first | (go_at_call 34; (with_reducible refine (C0.out _).mono ?_); rintro e2 w2 ⟨rfl, b2⟩; have b2' := bstep (by assumption : Below w1.heap.size w1 _) b2; clear b2) | (go_at_call 35; (with_reducible refine (C1.out _).mono ?_); rintro e2 w2 ⟨rfl, b2⟩; have b2' := bstep (by assumption : Below w1.heap.size w1 _) b2; clear b2))
    (try simp only [Exit.inBlock, Exit.then]); refine bodyPost_ret (by simp [results, Try.results9, go_sem, *]; try rfl) rfl ?_
    first
    | exact ⟨rfl, bstep L0.out (by assumption)⟩
    | (have hb := bstep L0.out b2'; exact ⟨_, rfl, ⟨Cells.new w2 _ _, RR.nil _, by intro e; cases e⟩, bstep hb (fresh_below _ _), hb.size⟩)
end Go.Proofs.Ytbboajhdijabbaa
