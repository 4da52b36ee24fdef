/- rules: Outer, Copy, New. -/
import Derived.Test.YtbboajhdijabbaaRule17
set_option linter.unusedVariables false
set_option linter.unusedSimpArgs false
namespace Go.Proofs.Ytbboajhdijabbaa
open Go.RowKit Go.Lib
attribute [local go_sem] Oper.semAt_some

def outR (o : Int) (l : List Rule) (a : Int) : Bool := decide (a = o) || l.any (ouP o a)

set_option maxHeartbeats 4000000 in
set_option maxRecDepth 100000 in
theorem t_Outer (w : World) (B : Nat) (o ip b : Int) (v : Value) (l : List Rule) (a : Int) (h : TS w B o ip b l v) (hl : l.length ≤ 1000) :
    Calls Try.prog 18 #[.pointer (some ⟨B, 0, none⟩), .int .u32 a] w (Ret (.bool (outR o l a)) w) := by
  have c0 : ∀ W, Below w.heap.size w W → Calls Try.prog 38 #[.pointer (some ⟨B, 0, none⟩)] W (Ret (.bool false) W) := fun W hW => t_none W B o ip b v (Tbl.below h.tbl hW)
  have c1 : ∀ W, Below w.heap.size w W → Cells W w.heap.size #[.pointer (some ⟨B, 0, none⟩)] 31 → Cells W (w.heap.size + 1) #[.int .u32 a] 23 → Calls Try.prog 42 #[v, .func (.func 48) #[] #[.pointer (some ⟨w.heap.size, 0, none⟩), .pointer (some ⟨w.heap.size + 1, 0, none⟩)]] W (Ret (.bool (l.any (ouP o a))) W) := fun W hW h1 h2 =>
    ContainsFuncRR (ouP o a) 48 _ (enters_of Try.func48 (by kernel_rfl) rfl) v l W (RR.below h.row hW) (fun W' x _ hb => (t_Outer1 W' B o ip b a v x _ _ _ _ (Tbl.below (Tbl.below h.tbl hW) hb) (Cells.below hb h1) (Cells.below hb h2)).mono fun e w2 k => ⟨k.1, bstep hb k.2⟩) (by omega)
  have hT := h.tbl
  obtain ⟨q, hq⟩ : ∃ q, q = outR o l a := ⟨_, rfl⟩
  rw [← hq]
  unfold outR at hq
  generalize l.any (ouP o a) = q1 at *
  obtain ⟨z, hz⟩ : ∃ z : Bool, (a == o) = z := ⟨_, rfl⟩
  have hz' : decide (a = o) = z := hz
  rw [hz'] at hq
  have C0 := hide c0; have C1 := hide c1; have HT := hide hT; have HQ := hide hq
  clear c0 c1 h hl hT hq hz'
  go_enter Try.func18, Try.ntmps18
  have d0 := Cells.new w #[.pointer (some ⟨B, 0, none⟩)] 31
  replace d0 := Cells.below (fresh_below (w.alloc (.cells #[.pointer (some ⟨B, 0, none⟩)] 31)) (.cells #[.int .u32 a] 23)) d0
  have d1 := Cells.new (w.alloc (.cells #[.pointer (some ⟨B, 0, none⟩)] 31)) #[.int .u32 a] 23
  have l0 : Below w.heap.size w ((w.alloc (.cells #[.pointer (some ⟨B, 0, none⟩)] 31)).alloc (.cells #[.int .u32 a] 23)) := bstep (fresh_below _ _) (fresh_below _ _)
  rw [World.size_alloc] at d1
  have L0 := hide l0; have D0 := hide d0; have D1 := hide d1
  clear l0 d0 d1
  go_upto_region 1 with fail
  have l0 := L0.out; have d0 := D0.out; have d1 := D1.out
  clear L0 D0 D1
  generalize ((w.alloc (.cells #[.pointer (some ⟨B, 0, none⟩)] 31)).alloc (.cells #[.int .u32 a] 23)) = w1 at *
  have hB := Cells.below l0 HT.out
  have qhB_0 : ∀ W', Below w1.heap.size w1 W' → World.cell? W' ⟨B, 0, none⟩ = some (.bool true) := fun W' h => Cells.at_ (Cells.below h hB) 0
  have qhB_1 : ∀ W', Below w1.heap.size w1 W' → World.cell? W' ⟨B, 1, none⟩ = some (.int .u32 o) := fun W' h => Cells.at_ (Cells.below h hB) 1
  have qhB_2 : ∀ W', Below w1.heap.size w1 W' → World.cell? W' ⟨B, 2, none⟩ = some (.int .u32 ip) := fun W' h => Cells.at_ (Cells.below h hB) 2
  have qhB_3 : ∀ W', Below w1.heap.size w1 W' → World.cell? W' ⟨B, 3, none⟩ = some (.int .i64 b) := fun W' h => Cells.at_ (Cells.below h hB) 3
  have qhB_4 : ∀ W', Below w1.heap.size w1 W' → World.cell? W' ⟨B, 4, none⟩ = some (v) := fun W' h => Cells.at_ (Cells.below h hB) 4
  have qd0_0 : ∀ W', Below w1.heap.size w1 W' → World.cell? W' ⟨w.heap.size, 0, none⟩ = some (.pointer (some ⟨B, 0, none⟩)) := fun W' h => Cells.at_ (Cells.below h d0) 0
  have qd1_0 : ∀ W', Below w1.heap.size w1 W' → World.cell? W' ⟨w.heap.size + 1, 0, none⟩ = some (.int .u32 a) := fun W' h => Cells.at_ (Cells.below h d1) 0
  have bb : Below w1.heap.size w1 w1 := Below.refl _ _
  have L0 := hide l0; have D0 := hide d0; have D1 := hide d1
  clear l0 d0 d1 hB
  go_wp2_with ((go_at_call 38; (with_reducible refine (C0.out _ (bstep L0.out (by assumption))).mono ?_); rintro e2 w2 ⟨rfl, b2⟩; have b2' := bstep (by assumption : Below w1.heap.size w1 _) b2; clear b2))
  cases z with
  | true =>
    refine wp_region_held_drew (S := fun W => Below w1.heap.size w1 W) (by kernel_rfl) (b2'.drew) (fun hS0 => ?_)
    refine wpAnyH_take (i := 0) (v := ?v0_1) rfl (by kernel_rfl) (by kernel_rfl) (by kernel_rfl) (fun _ _ _ h => h) (Or.inl (And.intro (by kernel_rfl) ?q0_1)) hS0 ?r0_1; (case q0_1 => (intro w hx; (try dsimp only); (try go_simp); (try with_reducible rfl)))
    (try simp only [Act.put, List.setIfInBounds_toArray, List.set_cons_zero, List.set_cons_succ, List.getElem_toArray, List.getElem_cons_succ, List.getElem_cons_zero])
    refine wpAnyH_take (i := 1) (v := ?v1_2) rfl (by kernel_rfl) (by kernel_rfl) (by kernel_rfl) (fun _ _ _ h => h) (Or.inl (And.intro (by kernel_rfl) ?q1_2)) hS0 ?r1_2; (case q1_2 => (intro w hx; (try dsimp only); (try go_simp); (try with_reducible rfl)))
    (try simp only [Act.put, List.setIfInBounds_toArray, List.set_cons_zero, List.set_cons_succ, List.getElem_toArray, List.getElem_cons_succ, List.getElem_cons_zero])
    refine wpAnyH_take (i := 2) (v := ?v2_3) rfl (by kernel_rfl) (by kernel_rfl) (by kernel_rfl) (fun _ _ _ h => h) (Or.inl (And.intro (by kernel_rfl) ?q2_3)) hS0 ?r2_3; (case q2_3 => (intro w hx; (try dsimp only); (try go_simp); (try with_reducible rfl)))
    (try simp only [Act.put, List.setIfInBounds_toArray, List.set_cons_zero, List.set_cons_succ, List.getElem_toArray, List.getElem_cons_succ, List.getElem_cons_zero])
    refine wpAnyH_take (i := 3) (v := ?v3_4) rfl (by kernel_rfl) (by kernel_rfl) (by kernel_rfl) (fun _ _ _ h => h) (Or.inl (And.intro (by kernel_rfl) ?q3_4)) hS0 ?r3_4; (case q3_4 => (intro w hx; (try dsimp only); (try go_simp); (try with_reducible rfl)))
    (try simp only [Act.put, List.setIfInBounds_toArray, List.set_cons_zero, List.set_cons_succ, List.getElem_toArray, List.getElem_cons_succ, List.getElem_cons_zero])
    refine wpAnyH_take (i := 4) (v := ?v4_5) rfl (by kernel_rfl) (by kernel_rfl) (by kernel_rfl) (fun _ _ _ h => h) (Or.inl (And.intro (by kernel_rfl) ?q4_5)) hS0 ?r4_5; (case q4_5 => (intro w hx; (try dsimp only); (try go_simp); (try with_reducible rfl)))
    (try simp only [Act.put, List.setIfInBounds_toArray, List.set_cons_zero, List.set_cons_succ, List.getElem_toArray, List.getElem_cons_succ, List.getElem_cons_zero])
    refine wpAnyH_take (i := 5) (v := ?v5_6) rfl (by kernel_rfl) (by kernel_rfl) (by kernel_rfl) (fun _ _ _ h => h) (Or.inl (And.intro (by kernel_rfl) ?q5_6)) hS0 ?r5_6; (case q5_6 => (intro w hx; (try dsimp only); (try go_simp); (try with_reducible rfl)))
    (try simp only [Act.put, List.setIfInBounds_toArray, List.set_cons_zero, List.set_cons_succ, List.getElem_toArray, List.getElem_cons_succ, List.getElem_cons_zero])
    refine wpAnyH_take (i := 6) (v := ?v6_7) rfl (by kernel_rfl) (by kernel_rfl) (by kernel_rfl) (fun _ _ _ h => h) (Or.inl (And.intro (by kernel_rfl) ?q6_7)) hS0 ?r6_7; (case q6_7 => (intro w hx; (try dsimp only); (try go_simp); (try with_reducible rfl)))
    (try simp only [Act.put, List.setIfInBounds_toArray, List.set_cons_zero, List.set_cons_succ, List.getElem_toArray, List.getElem_cons_succ, List.getElem_cons_zero])
    refine wpAnyH_take (i := 7) (v := undef) rfl (by kernel_rfl) (by kernel_rfl) (by kernel_rfl) (fun _ _ _ h => h) (Or.inr (And.intro (by kernel_rfl) rfl)) hS0 ?r7_8
    (try simp only [Act.put, List.setIfInBounds_toArray, List.set_cons_zero, List.set_cons_succ, List.getElem_toArray, List.getElem_cons_succ, List.getElem_cons_zero])
    refine wpAnyH_take (i := 8) (v := undef) rfl (by kernel_rfl) (by kernel_rfl) (by kernel_rfl) (fun _ _ _ h => h) (Or.inr (And.intro (by kernel_rfl) rfl)) hS0 ?r8_9
    (try simp only [Act.put, List.setIfInBounds_toArray, List.set_cons_zero, List.set_cons_succ, List.getElem_toArray, List.getElem_cons_succ, List.getElem_cons_zero])
    refine wpAnyH_take (i := 9) (v := undef) rfl (by kernel_rfl) (by kernel_rfl) (by kernel_rfl) (fun _ _ _ h => h) (Or.inr (And.intro (by kernel_rfl) rfl)) hS0 ?r9_10
    (try simp only [Act.put, List.setIfInBounds_toArray, List.set_cons_zero, List.set_cons_succ, List.getElem_toArray, List.getElem_cons_succ, List.getElem_cons_zero])
    refine wpAnyH_take (i := 10) (v := undef) rfl (by kernel_rfl) (by kernel_rfl) (by kernel_rfl) (fun _ _ _ h => h) (Or.inr (And.intro (by kernel_rfl) rfl)) hS0 ?r10_11
    (try simp only [Act.put, List.setIfInBounds_toArray, List.set_cons_zero, List.set_cons_succ, List.getElem_toArray, List.getElem_cons_succ, List.getElem_cons_zero])
    refine wpAnyH_take (i := 11) (v := undef) rfl (by kernel_rfl) (by kernel_rfl) (by kernel_rfl) (fun _ _ _ h => h) (Or.inr (And.intro (by kernel_rfl) rfl)) hS0 ?r11_12
    (try simp only [Act.put, List.setIfInBounds_toArray, List.set_cons_zero, List.set_cons_succ, List.getElem_toArray, List.getElem_cons_succ, List.getElem_cons_zero])
    refine wpAnyH_take (i := 12) (v := undef) rfl (by kernel_rfl) (by kernel_rfl) (by kernel_rfl) (fun _ _ _ h => h) (Or.inr (And.intro (by kernel_rfl) rfl)) hS0 ?r12_13
    (try simp only [Act.put, List.setIfInBounds_toArray, List.set_cons_zero, List.set_cons_succ, List.getElem_toArray, List.getElem_cons_succ, List.getElem_cons_zero])
    refine wpAnyH_take (i := 13) (v := ?v13_14) rfl (by kernel_rfl) (by kernel_rfl) (by kernel_rfl) (fun _ _ _ h => h) (Or.inl (And.intro (by kernel_rfl) ?q13_14)) hS0 ?r13_14; (case q13_14 => (intro w hx; (try dsimp only); (try go_simp); (try with_reducible rfl)))
    (try simp only [Act.put, List.setIfInBounds_toArray, List.set_cons_zero, List.set_cons_succ, List.getElem_toArray, List.getElem_cons_succ, List.getElem_cons_zero])
    refine wpAnyH_take (i := 14) (v := ?v14_15) rfl (by kernel_rfl) (by kernel_rfl) (by kernel_rfl) (fun _ _ _ h => h) (Or.inl (And.intro (by kernel_rfl) ?q14_15)) hS0 ?r14_15; (case q14_15 => (intro w hx; (try dsimp only); (try go_simp); (try with_reducible rfl)))
    (try simp only [Act.put, List.setIfInBounds_toArray, List.set_cons_zero, List.set_cons_succ, List.getElem_toArray, List.getElem_cons_succ, List.getElem_cons_zero])
    all_goals refine wpAnyH_done (by kernel_rfl) ?_ _
    go_wp2_with fail
    go_ret
    exact ⟨ret_bool (by rw [HQ.out]; rfl), bstep L0.out hS0⟩
  | false =>
    refine wp_region_held_drew (S := fun W => Below w1.heap.size w1 W) (by kernel_rfl) (b2'.drew) (fun hS0 => ?_)
    refine wpAnyH_take (i := 0) (v := ?v0_16) rfl (by kernel_rfl) (by kernel_rfl) (by kernel_rfl) (fun _ _ _ h => h) (Or.inl (And.intro (by kernel_rfl) ?q0_16)) hS0 ?r0_16; (case q0_16 => (intro w hx; (try dsimp only); (try go_simp); (try with_reducible rfl)))
    (try simp only [Act.put, List.setIfInBounds_toArray, List.set_cons_zero, List.set_cons_succ, List.getElem_toArray, List.getElem_cons_succ, List.getElem_cons_zero])
    refine wpAnyH_take (i := 1) (v := ?v1_17) rfl (by kernel_rfl) (by kernel_rfl) (by kernel_rfl) (fun _ _ _ h => h) (Or.inl (And.intro (by kernel_rfl) ?q1_17)) hS0 ?r1_17; (case q1_17 => (intro w hx; (try dsimp only); (try go_simp); (try with_reducible rfl)))
    (try simp only [Act.put, List.setIfInBounds_toArray, List.set_cons_zero, List.set_cons_succ, List.getElem_toArray, List.getElem_cons_succ, List.getElem_cons_zero])
    refine wpAnyH_take (i := 2) (v := ?v2_18) rfl (by kernel_rfl) (by kernel_rfl) (by kernel_rfl) (fun _ _ _ h => h) (Or.inl (And.intro (by kernel_rfl) ?q2_18)) hS0 ?r2_18; (case q2_18 => (intro w hx; (try dsimp only); (try go_simp); (try with_reducible rfl)))
    (try simp only [Act.put, List.setIfInBounds_toArray, List.set_cons_zero, List.set_cons_succ, List.getElem_toArray, List.getElem_cons_succ, List.getElem_cons_zero])
    refine wpAnyH_take (i := 3) (v := ?v3_19) rfl (by kernel_rfl) (by kernel_rfl) (by kernel_rfl) (fun _ _ _ h => h) (Or.inl (And.intro (by kernel_rfl) ?q3_19)) hS0 ?r3_19; (case q3_19 => (intro w hx; (try dsimp only); (try go_simp); (try with_reducible rfl)))
    (try simp only [Act.put, List.setIfInBounds_toArray, List.set_cons_zero, List.set_cons_succ, List.getElem_toArray, List.getElem_cons_succ, List.getElem_cons_zero])
    refine wpAnyH_take (i := 4) (v := ?v4_20) rfl (by kernel_rfl) (by kernel_rfl) (by kernel_rfl) (fun _ _ _ h => h) (Or.inl (And.intro (by kernel_rfl) ?q4_20)) hS0 ?r4_20; (case q4_20 => (intro w hx; (try dsimp only); (try go_simp); (try with_reducible rfl)))
    (try simp only [Act.put, List.setIfInBounds_toArray, List.set_cons_zero, List.set_cons_succ, List.getElem_toArray, List.getElem_cons_succ, List.getElem_cons_zero])
    refine wpAnyH_take (i := 5) (v := ?v5_21) rfl (by kernel_rfl) (by kernel_rfl) (by kernel_rfl) (fun _ _ _ h => h) (Or.inl (And.intro (by kernel_rfl) ?q5_21)) hS0 ?r5_21; (case q5_21 => (intro w hx; (try dsimp only); (try go_simp); (try with_reducible rfl)))
    (try simp only [Act.put, List.setIfInBounds_toArray, List.set_cons_zero, List.set_cons_succ, List.getElem_toArray, List.getElem_cons_succ, List.getElem_cons_zero])
    refine wpAnyH_take (i := 6) (v := ?v6_22) rfl (by kernel_rfl) (by kernel_rfl) (by kernel_rfl) (fun _ _ _ h => h) (Or.inl (And.intro (by kernel_rfl) ?q6_22)) hS0 ?r6_22; (case q6_22 => (intro w hx; (try dsimp only); (try go_simp); (try with_reducible rfl)))
    (try simp only [Act.put, List.setIfInBounds_toArray, List.set_cons_zero, List.set_cons_succ, List.getElem_toArray, List.getElem_cons_succ, List.getElem_cons_zero])
    refine wpAnyH_take (i := 7) (v := ?v7_23) rfl (by kernel_rfl) (by kernel_rfl) (by kernel_rfl) (fun _ _ _ h => h) (Or.inl (And.intro (by kernel_rfl) ?q7_23)) hS0 ?r7_23; (case q7_23 => (intro w hx; (try dsimp only); (try go_simp); (try with_reducible rfl)))
    (try simp only [Act.put, List.setIfInBounds_toArray, List.set_cons_zero, List.set_cons_succ, List.getElem_toArray, List.getElem_cons_succ, List.getElem_cons_zero])
    refine wpAnyH_take (i := 8) (v := ?v8_24) rfl (by kernel_rfl) (by kernel_rfl) (by kernel_rfl) (fun _ _ _ h => h) (Or.inl (And.intro (by kernel_rfl) ?q8_24)) hS0 ?r8_24; (case q8_24 => (intro w hx; (try dsimp only); (try go_simp); (try with_reducible rfl)))
    (try simp only [Act.put, List.setIfInBounds_toArray, List.set_cons_zero, List.set_cons_succ, List.getElem_toArray, List.getElem_cons_succ, List.getElem_cons_zero])
    refine wpAnyH_take (i := 9) (v := ?v9_25) rfl (by kernel_rfl) (by kernel_rfl) (by kernel_rfl) (fun _ _ _ h => h) (Or.inl (And.intro (by kernel_rfl) ?q9_25)) hS0 ?r9_25; (case q9_25 => (intro w hx; (try dsimp only); (try go_simp); (try with_reducible rfl)))
    (try simp only [Act.put, List.setIfInBounds_toArray, List.set_cons_zero, List.set_cons_succ, List.getElem_toArray, List.getElem_cons_succ, List.getElem_cons_zero])
    refine wpAnyH_take (i := 10) (v := ?v10_26) rfl (by kernel_rfl) (by kernel_rfl) (by kernel_rfl) (fun _ _ _ h => h) (Or.inl (And.intro (by kernel_rfl) ?q10_26)) hS0 ?r10_26; (case q10_26 => (intro w hx; (try dsimp only); (try go_simp); (try with_reducible rfl)))
    (try simp only [Act.put, List.setIfInBounds_toArray, List.set_cons_zero, List.set_cons_succ, List.getElem_toArray, List.getElem_cons_succ, List.getElem_cons_zero])
    refine wpAnyH_take (i := 11) (v := ?v11_27) rfl (by kernel_rfl) (by kernel_rfl) (by kernel_rfl) (fun _ _ _ h => h) (Or.inl (And.intro (by kernel_rfl) ?q11_27)) hS0 ?r11_27; (case q11_27 => (intro w hx; (try dsimp only); (try go_simp); (try with_reducible rfl)))
    (try simp only [Act.put, List.setIfInBounds_toArray, List.set_cons_zero, List.set_cons_succ, List.getElem_toArray, List.getElem_cons_succ, List.getElem_cons_zero])
    all_goals refine wpAnyH_ready (rs := [12]) (by kernel_rfl) (by simp) ?_
    all_goals refine AllReadyH.cons rfl (fun K hK => ?_) AllReadyH.nil
    all_goals (rw [if_pos (by kernel_rfl)]; (try simp only [List.getElem_toArray, List.getElem_cons_succ, List.getElem_cons_zero]); go_simp; (refine (C1.out _ (bstep L0.out hS0) (Cells.below hS0 D0.out) (Cells.below hS0 D1.out)).mono ?_; rintro e wq ⟨rfl, bq⟩); (try go_wp2_with fail); refine hK.out _ _ (by (first | with_reducible exact hS0 | exact bstep hS0 bq)) (fun hS0 => ?_); clear hK K; (try simp only [Act.put, List.setIfInBounds_toArray, List.set_cons_zero, List.set_cons_succ, List.getElem_toArray, List.getElem_cons_succ, List.getElem_cons_zero]))
    all_goals refine wpAnyH_ready (rs := [13]) (by kernel_rfl) (by simp) ?_
    all_goals refine AllReadyH.cons rfl (fun K hK => ?_) AllReadyH.nil
    all_goals (rw [if_pos (by kernel_rfl)]; (try simp only [List.getElem_toArray, List.getElem_cons_succ, List.getElem_cons_zero]); go_simp; refine hK.out _ _ (by (first | with_reducible exact hS0 | exact bstep hS0 bq)) (fun hS0 => ?_); clear hK K; (try simp only [Act.put, List.setIfInBounds_toArray, List.set_cons_zero, List.set_cons_succ, List.getElem_toArray, List.getElem_cons_succ, List.getElem_cons_zero]))
    all_goals refine wpAnyH_ready (rs := [14]) (by kernel_rfl) (by simp) ?_
    all_goals refine AllReadyH.cons rfl (fun K hK => ?_) AllReadyH.nil
    all_goals (rw [if_pos (by kernel_rfl)]; (try simp only [List.getElem_toArray, List.getElem_cons_succ, List.getElem_cons_zero]); go_simp; refine hK.out _ _ (by (first | with_reducible exact hS0 | exact bstep hS0 bq)) (fun hS0 => ?_); clear hK K; (try simp only [Act.put, List.setIfInBounds_toArray, List.set_cons_zero, List.set_cons_succ, List.getElem_toArray, List.getElem_cons_succ, List.getElem_cons_zero]))
    all_goals refine wpAnyH_done (by kernel_rfl) ?_ _
    go_wp2_with fail
    go_ret
    exact ⟨ret_bool (by rw [HQ.out]; rfl), bstep L0.out hS0⟩
end Go.Proofs.Ytbboajhdijabbaa
