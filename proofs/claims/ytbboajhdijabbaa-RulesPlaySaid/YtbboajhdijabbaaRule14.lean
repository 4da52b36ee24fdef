/- rules: Delete, List. -/
import Derived.Test.YtbboajhdijabbaaRule13
set_option linter.unusedVariables false
set_option linter.unusedSimpArgs false
namespace Go.Proofs.Ytbboajhdijabbaa
open Go.RowKit Go.Lib
attribute [local go_sem] Oper.semAt_some

set_option maxHeartbeats 4000000 in
set_option maxRecDepth 100000 in
theorem t_Delete_yes (w : World) (B : Nat) (o ip b : Int) (v : Value) (l : List Rule) (i : Nat) (h : TS w B o ip b l v) (hi : i < l.length) (hl : l.length ≤ 1000) :
    Calls Try.prog 26 #[.pointer (some ⟨B, 0, none⟩), .int .i64 i] w (Post w B o ip b v (l.take i ++ l.drop (i + 1)) (.int .i64 0)) := by
  obtain ⟨A, c, hv⟩ := slice_of h.row
  have c0 : ∀ W, Below w.heap.size w W → Calls Try.prog 38 #[.pointer (some ⟨B, 0, none⟩)] W (Ret (.bool false) W) := fun W hW => t_none W B o ip b v (Tbl.below h.tbl hW)
  have hBlt : B < w.heap.size := Cells.lt h.tbl
  obtain ⟨L, hL⟩ : ∃ L, L = l.take i ++ l.drop (i + 1) := ⟨_, rfl⟩
  have c2 : ∀ W, Below w.heap.size w W → Calls Try.prog 53 #[v, .int .i64 i, .int .i64 (i + 1)] W fun e w7 => ∃ A' n' c', e = .returned (.slice A' n' c') ∧ RR w7 (.slice A' n' c') L ∧ Only (fun k => k = B ∨ v.ownBlock = some k) w w7 ∧ Cells w7 B #[.bool true, .int .u32 o, .int .u32 ip, .int .i64 b, v] 71 ∧ (Value.slice A' n' c').ownBlock = v.ownBlock := fun W hW => (DeleteRR v l i W (RR.below h.row hW) hi hl).mono (by
    rintro e w7 ⟨v', rfl, r7, f7, o7⟩
    obtain ⟨A', c', rfl⟩ := slice_of r7
    refine ⟨A', _, c', rfl, by rw [hL]; exact r7, Only.trans (Only.of_below hW (Nat.le_refl _)) (Only.mono o7 fun i hi => Or.inr hi), Cells.only (Cells.below hW h.tbl) o7 h.off, f7⟩)
  have hT := h.tbl
  have hi' : ¬ ((l.length : Int) ≤ (i : Int)) := by omega
  have hw1 : IntKind.i64.wrap ((i : Int) + 1) = (i : Int) + 1 := by rw [IntKind.wrap_i64]; omega
  obtain ⟨n, hnn⟩ : ∃ n, n = l.length := ⟨_, rfl⟩
  have hoff := h.off
  rw [← hL]
  rw [hv, ← hnn] at hT c2 hoff ⊢
  rw [← hnn] at hi hi'
  have C0 := hide c0; have C2 := hide c2; have HT := hide hT; have HO := hide hoff; have HB := hide hBlt
  clear hv c0 c2 h hnn hL hT hoff hBlt
  have hTq := HT.out
  have qhTq_0 : ∀ W', Below w.heap.size w W' → World.cell? W' ⟨B, 0, none⟩ = some (.bool true) := fun W' h => Cells.at_ (Cells.below h hTq) 0
  have qhTq_1 : ∀ W', Below w.heap.size w W' → World.cell? W' ⟨B, 1, none⟩ = some (.int .u32 o) := fun W' h => Cells.at_ (Cells.below h hTq) 1
  have qhTq_2 : ∀ W', Below w.heap.size w W' → World.cell? W' ⟨B, 2, none⟩ = some (.int .u32 ip) := fun W' h => Cells.at_ (Cells.below h hTq) 2
  have qhTq_3 : ∀ W', Below w.heap.size w W' → World.cell? W' ⟨B, 3, none⟩ = some (.int .i64 b) := fun W' h => Cells.at_ (Cells.below h hTq) 3
  have qhTq_4 : ∀ W', Below w.heap.size w W' → World.cell? W' ⟨B, 4, none⟩ = some (.slice A n c) := fun W' h => Cells.at_ (Cells.below h hTq) 4
  go_enter Try.func26, Try.ntmps26
  clear hTq
  have bb : Below w.heap.size w w := Below.refl _ _
  go_wp2_with (first | (go_at_call 38; (with_reducible refine (C0.out _ (by assumption)).mono ?_); rintro e2 w2 ⟨rfl, b2⟩; have b2' := bstep (by assumption : Below w.heap.size w _) b2; clear b2) | (go_at_call 53; refine (C2.out _ (by assumption)).mono ?_; rintro e w7 ⟨A', n', c', rfl, r7, o7, T7, f7⟩; have x4 : w7.cell? ⟨B, 4, none⟩ = some (.slice A n c) := Cells.at_ T7 4; have y4 := Cells.free T7 4))
  go_ret
  have nb : ∀ g, (Value.slice A' n' c').ownBlock = some g → g ≠ B := fun g hg => by
    rintro rfl
    exact HO.out (f7 ▸ hg)
  exact ⟨rfl, _, ⟨Cells.set_ T7 4 _, r7.same fun g hg => Below.heap_setCell _ ⟨B, 4, none⟩ _ g (nb g hg), fun e => nb B e rfl⟩, Only.setAt o7 4 _ (Or.inl (Or.inl rfl)), fun g hg => Or.inl (f7 ▸ hg)⟩

def delC (l : List Rule) (i : Int) : Int := if i < 0 ∨ (l.length : Int) ≤ i then 2 else 0
def delL (l : List Rule) (i : Int) : List Rule := if i < 0 ∨ (l.length : Int) ≤ i then l else l.take i.toNat ++ l.drop (i.toNat + 1)

set_option maxHeartbeats 4000000 in
set_option maxRecDepth 100000 in
theorem t_Delete_no (w : World) (B : Nat) (o ip b : Int) (v : Value) (l : List Rule) (i : Int) (h : TS w B o ip b l v) (hi : i < 0 ∨ (l.length : Int) ≤ i) :
    Calls Try.prog 26 #[.pointer (some ⟨B, 0, none⟩), .int .i64 i] w (Ret (.int .i64 2) w) := by
  obtain ⟨A, c, hv⟩ := slice_of h.row
  have c0 : ∀ W, Below w.heap.size w W → Calls Try.prog 38 #[.pointer (some ⟨B, 0, none⟩)] W (Ret (.bool false) W) := fun W hW => t_none W B o ip b v (Tbl.below h.tbl hW)
  have hT := h.tbl
  obtain ⟨n, hnn⟩ : ∃ n, n = l.length := ⟨_, rfl⟩
  rw [hv, ← hnn] at hT
  rw [← hnn] at hi
  have C0 := hide c0; have HI := hide hi
  clear hv c0 h hnn hi
  have qhT_0 : ∀ W', Below w.heap.size w W' → World.cell? W' ⟨B, 0, none⟩ = some (.bool true) := fun W' h => Cells.at_ (Cells.below h hT) 0
  have qhT_1 : ∀ W', Below w.heap.size w W' → World.cell? W' ⟨B, 1, none⟩ = some (.int .u32 o) := fun W' h => Cells.at_ (Cells.below h hT) 1
  have qhT_2 : ∀ W', Below w.heap.size w W' → World.cell? W' ⟨B, 2, none⟩ = some (.int .u32 ip) := fun W' h => Cells.at_ (Cells.below h hT) 2
  have qhT_3 : ∀ W', Below w.heap.size w W' → World.cell? W' ⟨B, 3, none⟩ = some (.int .i64 b) := fun W' h => Cells.at_ (Cells.below h hT) 3
  have qhT_4 : ∀ W', Below w.heap.size w W' → World.cell? W' ⟨B, 4, none⟩ = some (.slice A n c) := fun W' h => Cells.at_ (Cells.below h hT) 4
  clear hT
  go_enter Try.func26, Try.ntmps26
  have bb : Below w.heap.size w w := Below.refl _ _
  go_wp2_with ((go_at_call 38; (with_reducible refine (C0.out _ (by assumption)).mono ?_); rintro e2 w2 ⟨rfl, b2⟩; have b2' := bstep (by assumption : Below w.heap.size w _) b2; clear b2))
  all_goals first | (exfalso; have hi := HI.out; clear HI; omega) | (go_ret; exact ⟨rfl, by assumption⟩)

theorem t_Delete (w : World) (B : Nat) (o ip b : Int) (v : Value) (l : List Rule) (i : Int) (h : TS w B o ip b l v) (hl : l.length ≤ 1000) :
    Calls Try.prog 26 #[.pointer (some ⟨B, 0, none⟩), .int .i64 i] w (Post w B o ip b v (delL l i) (.int .i64 (delC l i))) := by
  unfold delL delC
  by_cases hz : i < 0 ∨ (l.length : Int) ≤ i
  · rw [if_pos hz, if_pos hz]
    refine (t_Delete_no w B o ip b v l i h hz).mono ?_
    rintro e w' ⟨rfl, hb⟩
    exact Post.keep h hb
  · rw [if_neg hz, if_neg hz]
    obtain ⟨k, rfl⟩ := Int.eq_ofNat_of_zero_le (show 0 ≤ i by omega)
    exact t_Delete_yes w B o ip b v l k h (by omega) hl

set_option maxHeartbeats 4000000 in
set_option maxRecDepth 100000 in
theorem t_List (w : World) (B : Nat) (o ip b : Int) (v : Value) (l : List Rule) (h : TS w B o ip b l v) (hl : l.length ≤ 1000) :
    Calls Try.prog 22 #[.pointer (some ⟨B, 0, none⟩)] w fun e w' => ∃ v', e = .returned v' ∧ RR w' v' l ∧ Below w.heap.size w w' ∧ Fresh w.heap.size v' := by
  have c0 : ∀ W, Below w.heap.size w W → Calls Try.prog 38 #[.pointer (some ⟨B, 0, none⟩)] W (Ret (.bool false) W) := fun W hW => t_none W B o ip b v (Tbl.below h.tbl hW)
  have c1 : ∀ W, Below w.heap.size w W → _ := fun W hW => CloneRR v l W (RR.below h.row hW) hl
  have hT := h.tbl
  have C0 := hide c0; have C1 := hide c1
  clear c0 h c1 hl
  have qhT_0 : ∀ W', Below w.heap.size w W' → World.cell? W' ⟨B, 0, none⟩ = some (.bool true) := fun W' h => Cells.at_ (Cells.below h hT) 0
  have qhT_1 : ∀ W', Below w.heap.size w W' → World.cell? W' ⟨B, 1, none⟩ = some (.int .u32 o) := fun W' h => Cells.at_ (Cells.below h hT) 1
  have qhT_2 : ∀ W', Below w.heap.size w W' → World.cell? W' ⟨B, 2, none⟩ = some (.int .u32 ip) := fun W' h => Cells.at_ (Cells.below h hT) 2
  have qhT_3 : ∀ W', Below w.heap.size w W' → World.cell? W' ⟨B, 3, none⟩ = some (.int .i64 b) := fun W' h => Cells.at_ (Cells.below h hT) 3
  have qhT_4 : ∀ W', Below w.heap.size w W' → World.cell? W' ⟨B, 4, none⟩ = some (v) := fun W' h => Cells.at_ (Cells.below h hT) 4
  clear hT
  go_enter Try.func22, Try.ntmps22
  have bb : Below w.heap.size w w := Below.refl _ _
  go_wp2_with (first | (go_at_call 38; (with_reducible refine (C0.out _ (by assumption)).mono ?_); rintro e2 w2 ⟨rfl, b2⟩; have b2' := bstep (by assumption : Below w.heap.size w _) b2; clear b2) | (go_at_call 50; refine (C1.out _ (by assumption)).mono ?_; rintro e w7 ⟨v', rfl, r7, b7, f7⟩))
  go_ret
  have hb := bstep b2' b7
  exact ⟨_, rfl, r7, hb, fun g hg => Nat.le_trans b2'.size (f7 g hg)⟩
end Go.Proofs.Ytbboajhdijabbaa
