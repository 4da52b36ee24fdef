/- rules: the document's Add, Delete (porterref11). -/
import Derived.Test.YtbboajhdijabbaaRdoc7
import Derived.IntWalk
set_option linter.unusedVariables false
set_option linter.unusedSimpArgs false
namespace Go.Proofs.Ytbboajhdijabbaa
open Go.RowKit Go.Lib
attribute [local go_sem] Oper.semAt_some

/-- the rules behind the document's Add -/
def addDL (o ip b : Int) (l : List Rule) (i : Int) (r : Rule) : List Rule := if addD o ip b l i r = 0 then l.take i.toNat ++ r :: l.drop i.toNat else l
theorem addDL_eq {o ip b : Int} {l : List Rule} {i : Int} {r : Rule} (h : ∀ x ∈ l, mayR ip b x = true) : addDL o ip b l i r = addL o ip b l i r := by
  unfold addDL addL
  rw [addD_eq h]
theorem d_Add (w : World) (B : Nat) (o ip b : Int) (v : Value) (l : List Rule) (i : Int) (r : Rule) (h : DS w B o ip b l v) (hip : 0 ≤ ip ∧ ip ≤ 4294967295) (hr : r.Ok) (hl : l.length ≤ 1000) :
    Calls Try.prog 15 #[.pointer (some ⟨B, 0, none⟩), .int .i64 i, .agg r.cells] w (DPost w B o ip b v (addDL o ip b l i r) (.int .i64 (addD o ip b l i r))) := by
  have hno : ∀ rc, addD o ip b l i r = rc → rc ≠ 0 → ((mayR ip b r = false ∧ rc = 2) ∨ (mayR ip b r = true ∧ (i < 0 ∨ (l.length : Int) < i) ∧ rc = 2) ∨ (mayR ip b r = true ∧ (0 ≤ i ∧ i ≤ (l.length : Int)) ∧ 32 ≤ l.length ∧ rc = 5)) →
      Calls Try.prog 15 #[.pointer (some ⟨B, 0, none⟩), .int .i64 i, .agg r.cells] w (DPost w B o ip b v (addDL o ip b l i r) (.int .i64 (addD o ip b l i r))) := by
    intro rc h1 h2 h3
    refine (d_Add_no w B o ip b v l i r h hip hr hl rc h3).mono ?_
    rintro e w' ⟨rfl, hb⟩
    unfold addDL
    rw [if_neg (by rw [h1]; exact h2), h1]
    exact DPost.keep h hb
  have hE : addD o ip b l i r = if mayR ip b r = false then 2 else if i < 0 ∨ (l.length : Int) < i then 2 else if 32 ≤ l.length then 5 else if (l.any fun x => dClash o x r) = true then 11 else 0 := rfl
  cases hm : mayR ip b r with
  | false => exact hno 2 (by rw [hE, if_pos hm]) (by decide) (Or.inl ⟨hm, rfl⟩)
  | true =>
    rw [if_neg (by rw [hm]; decide)] at hE
    by_cases h1 : i < 0 ∨ (l.length : Int) < i
    · exact hno 2 (by rw [hE, if_pos h1]) (by decide) (Or.inr (Or.inl ⟨hm, h1, rfl⟩))
    · rw [if_neg h1] at hE
      by_cases h2 : 32 ≤ l.length
      · exact hno 5 (by rw [hE, if_pos h2]) (by decide) (Or.inr (Or.inr ⟨hm, by omega, h2, rfl⟩))
      · rw [if_neg h2] at hE
        obtain ⟨k, rfl⟩ := Int.eq_ofNat_of_zero_le (show 0 ≤ i by omega)
        have key := d_Add_go w B o ip b v l k r h hip hr (by omega) (by omega) hm _ rfl
        unfold addDL
        rw [hE, Int.toNat_natCast]
        exact key

set_option maxHeartbeats 4000000 in
set_option maxRecDepth 100000 in
theorem d_Delete_no (w : World) (B : Nat) (o ip b : Int) (v : Value) (l : List Rule) (i : Int) (h : DS w B o ip b l v) (hl : l.length ≤ 1000) (hi : i < 0 ∨ (l.length : Int) ≤ i) :
    Calls Try.prog 31 #[.pointer (some ⟨B, 0, none⟩), .int .i64 i] w (Ret (.int .i64 2) w) := by
  obtain ⟨A, c, hv⟩ := slice_of h.row
  have hT := h.tbl
  obtain ⟨n, hnn⟩ : ∃ n, n = l.length := ⟨_, rfl⟩
  rw [hv, ← hnn] at hT
  rw [← hnn] at hi
  have xhT_0 : w.cell? ⟨B, 0, none⟩ = some (.int .u32 o) := hT.at_ 0
  have xhT_1 : w.cell? ⟨B, 1, none⟩ = some (.int .u32 ip) := hT.at_ 1
  have xhT_2 : w.cell? ⟨B, 2, none⟩ = some (.int .i64 b) := hT.at_ 2
  have xhT_3 : w.cell? ⟨B, 3, none⟩ = some (.slice A n c) := hT.at_ 3
  clear hT hv hnn h
  rcases hi with hi | hi
  · go_enter Try.func31, Try.ntmps31
    go_wp2_with fail
    go_ret
    exact ⟨rfl, Below.refl _ _⟩
  · by_cases h0 : i < 0
    · go_enter Try.func31, Try.ntmps31
      go_wp2_with fail
      go_ret
      exact ⟨rfl, Below.refl _ _⟩
    · go_enter Try.func31, Try.ntmps31
      go_wp2_with fail
      go_ret
      exact ⟨rfl, Below.refl _ _⟩

set_option maxHeartbeats 8000000 in
set_option maxRecDepth 100000 in
theorem d_Delete_yes (w : World) (B : Nat) (o ip b : Int) (v : Value) (l : List Rule) (i : Nat) (h : DS w B o ip b l v) (hl : l.length ≤ 1000) (hi : i < l.length) :
    Calls Try.prog 31 #[.pointer (some ⟨B, 0, none⟩), .int .i64 i] w (DPost w B o ip b v (l.take i ++ l.drop (i + 1)) (.int .i64 0)) := by
  obtain ⟨A, c, hv, hrow⟩ := h.rows
  obtain ⟨g, hA, hg0, _⟩ := hrow (by omega)
  subst hA
  obtain ⟨n, hnn⟩ : ∃ n, n = l.length := ⟨_, rfl⟩
  obtain ⟨k, hk⟩ : ∃ k, k = i + 1 := ⟨_, rfl⟩
  rw [← hk]
  have hT := h.tbl
  have hR := h.row
  rw [hv, ← hnn] at hT
  rw [← hnn] at hv hi hl
  have hw : IntKind.i64.wrap ((i : Int) + 1) = (k : Int) := by rw [IntWalk.i64_in _ (by omega)]; omega
  have SA := hide (fun W (hW : Below w.heap.size w W) c' => SrcR.take (W := W) (g := g) (n := n) (c := c) (i := i) (l := l) (by rw [← hv]; exact RR.below hR hW) (by omega) c')
  have SB := hide (fun W (hW : Below w.heap.size w W) A2 hA2 c' => SrcR.drop (W := W) (g := g) (n := n) (c := c) (i := k) (l := l) (by rw [← hv]; exact RR.below hR hW) (by omega) A2 hA2 c' (n - k) (by omega))
  obtain ⟨AD, hAD⟩ : ∃ AD : Addr, (if c = k then some (⟨g, 0, none⟩ : Addr) else some ⟨g, k * 11, none⟩) = some AD := by split <;> exact ⟨_, rfl⟩
  have hkc : n ≤ c ∧ c ≤ 9223372036854775807 := by
    rcases hR.2 with ⟨h1, h2⟩ | ⟨g, c', cur, h1, _, _, h2, h3, _⟩
    · rw [hv] at h1; cases h1
    · rw [hv] at h1; cases h1; exact ⟨by omega, by unfold maxLen at h3; omega⟩
  obtain ⟨hnc, hc63⟩ := hkc
  have LT := hide (show ([] : List Rule).length + (l.take i).length ≤ 2000 by simp only [List.length_take, List.length_nil]; omega)
  have LT3 := hide (show (([] : List Rule) ++ l.take i).length + (l.drop k).length ≤ 2000 by simp only [List.length_append, List.length_take, List.length_drop, List.length_nil]; omega)
  have hn63 : (n : Int) ≤ 1000 := by omega
  have hi63 : (i : Int) < (n : Int) := by omega
  have hk63 : (k : Int) ≤ (n : Int) := by omega
  have hkn : k ≤ n := by omega
  have hin : i ≤ n := by omega
  have hkc2 : k ≤ c := by omega
  have hic2 : i ≤ c := by omega
  have g1 : decide ((i : Int) < 0) = false := by rw [decide_eq_false_iff_not]; omega
  have g2 : decide (n ≤ i) = false := by rw [decide_eq_false_iff_not]; omega
  have EB := hide hT; have H := hide h; have HB := hide (Cells.lt h.tbl)
  have qB : ∀ W, Below w.heap.size w W → W.cell? ⟨B, 2, none⟩ = some (.int .i64 b) ∧ W.cell? ⟨B, 3, none⟩ = some (.slice (some ⟨g, 0, none⟩) n c) := fun W hW => ⟨Cells.at_ (Cells.below hW hT) 2, Cells.at_ (Cells.below hW hT) 3⟩
  have qB3 : ∀ W, Below w.heap.size w W → W.cell? ⟨B, 3, none⟩ = some (.slice (some ⟨g, 0, none⟩) n c) := fun W hW => (qB W hW).2
  have fz : ∀ W' i, Below w.heap.size w W' → World.frozen? W' ⟨B, i, none⟩ = false := fun W' i h => Cells.free (Cells.below h hT) i
  have bb : Below w.heap.size w w := Below.refl _ _
  clear h hv hrow hnn hT hl hR hk qB hg0
  go_enter Try.func31, Try.ntmps31
  go_wp2_with fail
  have bw0 : Below w.heap.size w w.drew := bb.drew
  clear bb
  focus
    refine wp_region_J [18] (fun W => Below w.heap.size w W) (by kernel_rfl) (bw0) (fun hS0 => ?_)
    refine wpAnyJ_take (i := 0) (v := ?v0_1) rfl (by kernel_rfl) (by kernel_rfl) (by kernel_rfl) (by kernel_rfl) (fun _ _ _ h => h) (Or.inl (And.intro (by kernel_rfl) ?q0_1)) hS0 ?r0_1; (case q0_1 => (intro w hx; (try dsimp only); (try go_simp); (try with_reducible rfl)))
    (try simp only [Act.put, List.setIfInBounds_toArray, List.set_cons_zero, List.set_cons_succ, List.getElem_toArray, List.getElem_cons_succ, List.getElem_cons_zero])
    refine wpAnyJ_take (i := 1) (v := ?v1_2) rfl (by kernel_rfl) (by kernel_rfl) (by kernel_rfl) (by kernel_rfl) (fun _ _ _ h => h) (Or.inl (And.intro (by kernel_rfl) ?q1_2)) hS0 ?r1_2; (case q1_2 => (intro w hx; (try dsimp only); (try go_simp); (try with_reducible rfl)))
    (try simp only [Act.put, List.setIfInBounds_toArray, List.set_cons_zero, List.set_cons_succ, List.getElem_toArray, List.getElem_cons_succ, List.getElem_cons_zero])
    refine wpAnyJ_take (i := 2) (v := ?v2_3) rfl (by kernel_rfl) (by kernel_rfl) (by kernel_rfl) (by kernel_rfl) (fun _ _ _ h => h) (Or.inl (And.intro (by kernel_rfl) ?q2_3)) hS0 ?r2_3; (case q2_3 => (intro w hx; (try dsimp only); (try go_simp); (try with_reducible rfl)))
    (try simp only [Act.put, List.setIfInBounds_toArray, List.set_cons_zero, List.set_cons_succ, List.getElem_toArray, List.getElem_cons_succ, List.getElem_cons_zero])
    refine wpAnyJ_take (i := 3) (v := ?v3_4) rfl (by kernel_rfl) (by kernel_rfl) (by kernel_rfl) (by kernel_rfl) (fun _ _ _ h => h) (Or.inl (And.intro (by kernel_rfl) ?q3_4)) hS0 ?r3_4; (case q3_4 => (intro w hx; (try dsimp only); (try go_simp); (try with_reducible rfl)))
    (try simp only [Act.put, List.setIfInBounds_toArray, List.set_cons_zero, List.set_cons_succ, List.getElem_toArray, List.getElem_cons_succ, List.getElem_cons_zero])
    refine wpAnyJ_take (i := 4) (v := ?v4_5) rfl (by kernel_rfl) (by kernel_rfl) (by kernel_rfl) (by kernel_rfl) (fun _ _ _ h => h) (Or.inl (And.intro (by kernel_rfl) ?q4_5)) hS0 ?r4_5; (case q4_5 => (intro w hx; (try dsimp only); (try go_simp); (try with_reducible rfl)))
    (try simp only [Act.put, List.setIfInBounds_toArray, List.set_cons_zero, List.set_cons_succ, List.getElem_toArray, List.getElem_cons_succ, List.getElem_cons_zero])
    refine wpAnyJ_take (i := 5) (v := ?v5_6) rfl (by kernel_rfl) (by kernel_rfl) (by kernel_rfl) (by kernel_rfl) (fun _ _ _ h => h) (Or.inl (And.intro (by kernel_rfl) ?q5_6)) hS0 ?r5_6; (case q5_6 => (intro w hx; (try dsimp only); (try go_simp); (try with_reducible rfl)))
    (try simp only [Act.put, List.setIfInBounds_toArray, List.set_cons_zero, List.set_cons_succ, List.getElem_toArray, List.getElem_cons_succ, List.getElem_cons_zero])
    refine wpAnyJ_take (i := 6) (v := ?v6_7) rfl (by kernel_rfl) (by kernel_rfl) (by kernel_rfl) (by kernel_rfl) (fun _ _ _ h => h) (Or.inl (And.intro (by kernel_rfl) ?q6_7)) hS0 ?r6_7; (case q6_7 => (intro w hx; (try dsimp only); (try go_simp); (try with_reducible rfl)))
    (try simp only [Act.put, List.setIfInBounds_toArray, List.set_cons_zero, List.set_cons_succ, List.getElem_toArray, List.getElem_cons_succ, List.getElem_cons_zero])
    refine wpAnyJ_take (i := 8) (v := ?v8_8) rfl (by kernel_rfl) (by kernel_rfl) (by kernel_rfl) (by kernel_rfl) (fun _ _ _ h => h) (Or.inl (And.intro (by kernel_rfl) ?q8_8)) hS0 ?r8_8; (case q8_8 => (intro w hx; (try dsimp only); (try go_simp); (try with_reducible rfl)))
    (try simp only [Act.put, List.setIfInBounds_toArray, List.set_cons_zero, List.set_cons_succ, List.getElem_toArray, List.getElem_cons_succ, List.getElem_cons_zero])
    refine wpAnyJ_take (i := 9) (v := ?v9_9) rfl (by kernel_rfl) (by kernel_rfl) (by kernel_rfl) (by kernel_rfl) (fun _ _ _ h => h) (Or.inl (And.intro (by kernel_rfl) ?q9_9)) hS0 ?r9_9; (case q9_9 => (intro w hx; (try dsimp only); (try go_simp); (try with_reducible rfl)))
    (try simp only [Act.put, List.setIfInBounds_toArray, List.set_cons_zero, List.set_cons_succ, List.getElem_toArray, List.getElem_cons_succ, List.getElem_cons_zero])
    refine wpAnyJ_take (i := 10) (v := ?v10_10) rfl (by kernel_rfl) (by kernel_rfl) (by kernel_rfl) (by kernel_rfl) (fun _ _ _ h => h) (Or.inl (And.intro (by kernel_rfl) ?q10_10)) hS0 ?r10_10; (case q10_10 => (intro w hx; (try dsimp only); (try go_simp); (try with_reducible rfl)))
    (try simp only [Act.put, List.setIfInBounds_toArray, List.set_cons_zero, List.set_cons_succ, List.getElem_toArray, List.getElem_cons_succ, List.getElem_cons_zero])
    refine wpAnyJ_take (i := 11) (v := ?v11_11) rfl (by kernel_rfl) (by kernel_rfl) (by kernel_rfl) (by kernel_rfl) (fun _ _ _ h => h) (Or.inl (And.intro (by kernel_rfl) ?q11_11)) hS0 ?r11_11; (case q11_11 => (intro w hx; (try dsimp only); (try go_simp); (try with_reducible rfl)))
    (try simp only [Act.put, List.setIfInBounds_toArray, List.set_cons_zero, List.set_cons_succ, List.getElem_toArray, List.getElem_cons_succ, List.getElem_cons_zero])
    refine wpAnyJ_take (i := 12) (v := ?v12_12) rfl (by kernel_rfl) (by kernel_rfl) (by kernel_rfl) (by kernel_rfl) (fun _ _ _ h => h) (Or.inl (And.intro (by kernel_rfl) ?q12_12)) hS0 ?r12_12; (case q12_12 => (intro w hx; (try dsimp only); (try go_simp); (try with_reducible rfl)))
    (try simp only [Act.put, List.setIfInBounds_toArray, List.set_cons_zero, List.set_cons_succ, List.getElem_toArray, List.getElem_cons_succ, List.getElem_cons_zero])
    refine wpAnyJ_take (i := 13) (v := ?v13_13) rfl (by kernel_rfl) (by kernel_rfl) (by kernel_rfl) (by kernel_rfl) (fun _ _ _ h => h) (Or.inl (And.intro (by kernel_rfl) ?q13_13)) hS0 ?r13_13; (case q13_13 => (intro w hx; (try dsimp only); (try go_simp); (try with_reducible rfl)))
    (try simp only [Act.put, List.setIfInBounds_toArray, List.set_cons_zero, List.set_cons_succ, List.getElem_toArray, List.getElem_cons_succ, List.getElem_cons_zero])
    refine wpAnyJ_take (i := 14) (v := ?v14_14) rfl (by kernel_rfl) (by kernel_rfl) (by kernel_rfl) (by kernel_rfl) (fun _ _ _ h => h) (Or.inl (And.intro (by kernel_rfl) ?q14_14)) hS0 ?r14_14; (case q14_14 => (intro w hx; (try dsimp only); (try go_simp); (try with_reducible rfl)))
    (try simp only [Act.put, List.setIfInBounds_toArray, List.set_cons_zero, List.set_cons_succ, List.getElem_toArray, List.getElem_cons_succ, List.getElem_cons_zero])
    refine wpAnyJ_ready (rs := [7]) (by kernel_rfl) (by simp) ?_
    refine (AllReadyJ.cons rfl (fun K hK => ?_) AllReadyJ.nil)
    (focus (refine step_app rfl (.const (.slice none 0 0)) (.tmp 22) rfl (.slice none 0 0) _ rfl rfl [] (l.take i) (RR.nil _) (SA.out _ hS0 _) LT.out ?_; intro A1 n1 c1 w7 r7 g7 o7; have bq := Below.app hS0 g7 (fun k hk => by cases hk) hS0.size; have q7 := own_app o7 (fun k hk => by cases hk) hS0.size))
    (focus (try go_wp2_with fail))
    refine hK.out _ _ ?hs (fun hS0 => ?_)
    case hs => (first | with_reducible exact hS0 | with_reducible exact bq | exact bstep hS0 (fresh_below _ _))
    clear hK K
    (try simp only [Act.put, List.setIfInBounds_toArray, List.set_cons_zero, List.set_cons_succ, List.getElem_toArray, List.getElem_cons_succ, List.getElem_cons_zero])
    refine wpAnyJ_ready (rs := [15]) (by kernel_rfl) (by simp) ?_
    refine (AllReadyJ.cons rfl (fun K hK => ?_) AllReadyJ.nil)
    (focus (refine step_app rfl (.tmp 23) (.tmp 30) rfl _ _ rfl rfl _ (l.drop k) r7 (SB.out _ hS0 _ hAD _) LT3.out ?_; intro A3 n3 c3 w9 r9 g9 o9; have bq := Below.app hS0 g9 q7 hS0.size; have q9 := own_app o9 q7 hS0.size))
    (focus (try go_wp2_with fail))
    refine hK.out _ _ ?hs (fun hS0 => ?_)
    case hs => (first | with_reducible exact hS0 | with_reducible exact bq | exact bstep hS0 (fresh_below _ _))
    clear hK K
    (try simp only [Act.put, List.setIfInBounds_toArray, List.set_cons_zero, List.set_cons_succ, List.getElem_toArray, List.getElem_cons_succ, List.getElem_cons_zero])
    refine wpAnyJ_ready (rs := [16]) (by kernel_rfl) (by simp) ?_
    refine (AllReadyJ.cons rfl (fun K hK => ?_) AllReadyJ.nil)
    rw [if_pos (by kernel_rfl)]
    (try simp only [List.getElem_toArray, List.getElem_cons_succ, List.getElem_cons_zero])
    (focus go_simp)
    refine hK.out _ _ ?hs (fun hS0 => ?_)
    case hs => (first | with_reducible exact hS0 | with_reducible exact bq | exact bstep hS0 (fresh_below _ _))
    clear hK K
    (try simp only [Act.put, List.setIfInBounds_toArray, List.set_cons_zero, List.set_cons_succ, List.getElem_toArray, List.getElem_cons_succ, List.getElem_cons_zero])
    refine wpAnyJ_take (i := 17) (v := ?v17_15) rfl (by kernel_rfl) (by kernel_rfl) (by kernel_rfl) (by kernel_rfl) (fun _ _ _ h => h) (Or.inl (And.intro (by kernel_rfl) ?q17_15)) hS0 ?r17_15; (case q17_15 => (intro w hx; (try dsimp only); (try go_simp); (try with_reducible rfl)))
    (try simp only [Act.put, List.setIfInBounds_toArray, List.set_cons_zero, List.set_cons_succ, List.getElem_toArray, List.getElem_cons_succ, List.getElem_cons_zero])
    refine wpAnyJ_ready (rs := [18]) (by kernel_rfl) (by simp) ?_
    refine (AllReadyJ.last rfl (by kernel_rfl) (fun K hK => ?_) AllReadyJ.nil)
    rw [if_pos (by kernel_rfl)]
    (try simp only [List.getElem_toArray, List.getElem_cons_succ, List.getElem_cons_zero])
    (focus go_simp)
    refine hK.out _ _ ?_
    clear hK K
    (try simp only [Act.put, List.setIfInBounds_toArray, List.set_cons_zero, List.set_cons_succ, List.getElem_toArray, List.getElem_cons_succ, List.getElem_cons_zero])
    refine wpAnyJ_done (by kernel_rfl) ?_ _
  all_goals
    have r9' : RR w9 (.slice A3 n3 c3) (l.take i ++ l.drop k) := by simpa using r9
    have ho9 : Only (fun k => k = B) w9 (w9.setCell ⟨B, 3, none⟩ (.slice A3 n3 c3)) := Only.setAt (Only.refl _ _) 3 _ (Or.inl rfl)
    have FIN := hide (show DPost w B o ip b v (l.take i ++ l.drop k) (.int .i64 0) (.returned (.int .i64 0)) (w9.setCell ⟨B, 3, none⟩ (.slice A3 n3 c3)) from
      ⟨rfl, _, ⟨by have h := Cells.set_ (Cells.below hS0 EB.out) 3 (.slice A3 n3 c3); simpa [Doc] using h, r9'.only ho9 (fun g hg e => by have := q9 g hg; have := HB.out; omega), fun e => by have := q9 B e; have := HB.out; omega⟩,
        Only.setAt (Only.of_below hS0 (Nat.le_refl _)) 3 _ (Or.inl (Or.inl rfl)), fun g hg => Or.inr (q9 g hg)⟩)
    clear r9' ho9 o7 o9 g7 g9 r7 r9 q7 q9
    go_wp2_with fail
    go_ret
    exact FIN.out

theorem d_Delete (w : World) (B : Nat) (o ip b : Int) (v : Value) (l : List Rule) (i : Int) (h : DS w B o ip b l v) (hl : l.length ≤ 1000) :
    Calls Try.prog 31 #[.pointer (some ⟨B, 0, none⟩), .int .i64 i] w (DPost w B o ip b v (delL l i) (.int .i64 (delC l i))) := by
  unfold delL delC
  by_cases hz : i < 0 ∨ (l.length : Int) ≤ i
  · rw [if_pos hz, if_pos hz]
    refine (d_Delete_no w B o ip b v l i h hl hz).mono ?_
    rintro e w' ⟨rfl, hb⟩
    exact DPost.keep h hb
  · rw [if_neg hz, if_neg hz]
    obtain ⟨k, rfl⟩ := Int.eq_ofNat_of_zero_le (show 0 ≤ i by omega)
    exact d_Delete_yes w B o ip b v l k h hl (by omega)
end Go.Proofs.Ytbboajhdijabbaa
