/- rules: the law's alike: a table and the document's, with the same rules, are told alike. -/
import Derived.Test.YtbboajhdijabbaaRlaw3
import Derived.Test.YtbboajhdijabbaaRrows
import Derived.Test.YtbboajhdijabbaaRdoc3
import Derived.Test.YtbboajhdijabbaaRdoc4
import Derived.Test.YtbboajhdijabbaaJ
set_option linter.unusedVariables false
set_option linter.unusedSimpArgs false
namespace Go.Proofs.Ytbboajhdijabbaa
open Go.RowKit Go.Lib
attribute [local go_sem] Oper.semAt_some

theorem DS.b {W W' : World} {B : Nat} {o ip b : Int} {l : List Rule} {v : Value} (k : Below W.heap.size W W') (h : DS W B o ip b l v) : DS W' B o ip b l v := h.below k

set_option maxHeartbeats 8000000 in
set_option maxRecDepth 100000 in
theorem l_alike (w : World) (B B' : Nat) (l : List Rule) (v v' : Value) (h : TS w B 151587081 167772160 8 l v) (h' : DS w B' 151587081 167772160 8 l v') (hok : ∀ r ∈ l, r.Ok) (hl : l.length ≤ 1000) (a0 a1 a2 a3 a4 a5 : Int) (h1 : 0 ≤ a1 ∧ a1 ≤ 255) (h2 : 0 ≤ a2 ∧ a2 ≤ 255) (h3 : 0 ≤ a3 ∧ a3 ≤ 255) (h4 : 0 ≤ a4 ∧ a4 ≤ 255) (h5 : 0 ≤ a5 ∧ a5 ≤ 255) :
    Calls Try.prog 33 #[.pointer (some ⟨B, 0, none⟩), .pointer (some ⟨B', 0, none⟩), .agg #[.int .u8 a0, .int .u8 a1, .int .u8 a2, .int .u8 a3, .int .u8 a4, .int .u8 a5]] w (Ret (.bool true) w) := by
  obtain ⟨A', c', hv', hrow'⟩ := h'.rows
  have cl := fun W (hW : Below w.heap.size w W) => t_List W B _ _ _ v l (h.below hW) hl
  have cf := fun W => l_Flow W a0 a1 a2 a3 a4 a5 h1 h2 h3 h4 h5
  have t2 : a2.tmod 3 = a2 % 3 := by rw [Int.tmod_eq_emod_of_nonneg h2.1]
  unfold dFlow at cf
  have b2 : 0 ≤ a2 % 3 ∧ a2 % 3 < 3 := by omega
  have q2b : 0 ≤ 167772160 + a4 % 4 ∧ 167772160 + a4 % 4 ≤ 4294967295 := by omega
  have q4b : 0 ≤ 16909060 + a2 % 3 ∧ 16909060 + a2 % 3 ≤ 4294967295 := by omega
  generalize a2 % 3 = m2 at *
  generalize pr3 (a1 % 3) = q1 at *; generalize 167772160 + a4 % 4 = q2 at *; generalize 1 + a5 % 3 = q3 at *; generalize 16909060 + m2 = q4 at *; generalize 1 + a3 % 8 = q5 at *
  obtain ⟨b2l, b2u⟩ := b2
  have u7 : IntKind.u32.wrap m2 = m2 := IntWalk.u32_in _ (by omega)
  have u8 : IntKind.u32.wrap (151587081 + m2) = 151587081 + m2 := IntWalk.u32_in _ (by omega)
  obtain ⟨n, hn⟩ : ∃ n, n = l.length := ⟨_, rfl⟩
  have hn63 : (n : Int) ≤ 1000 := by omega
  have CL := hide cl; have CF := hide cf; have T1 := hide h; have T2 := hide h'; have HN := hide hn; have HV := hide hv'; have HR := hide hrow'; have OK := hide hok; have HL := hide hl; have Q2 := hide q2b; have Q4 := hide q4b
  clear cl cf h h' hn hv' hrow' hok hl h1 h2 h3 h4 h5 q2b q4b
  go_enter Try.func33, Try.ntmps33
  have d0 := Cells.new w #[.int .u8 a0, .int .u8 a1, .int .u8 a2, .int .u8 a3, .int .u8 a4, .int .u8 a5] 45
  have l0 : Below w.heap.size w (w.alloc (.cells #[.int .u8 a0, .int .u8 a1, .int .u8 a2, .int .u8 a3, .int .u8 a4, .int .u8 a5] 45)) := (fresh_below _ _)
  have L0 := hide l0; have D0 := hide d0
  clear l0 d0
  go_upto_region 1 with fail
  have l0 := L0.out; have d0 := D0.out
  clear L0 D0
  generalize (w.alloc (.cells #[.int .u8 a0, .int .u8 a1, .int .u8 a2, .int .u8 a3, .int .u8 a4, .int .u8 a5] 45)) = w1 at *
  have qd0_0 : ∀ W', Below w1.heap.size w1 W' → World.cell? W' ⟨w.heap.size, 0, none⟩ = some (.int .u8 a0) := fun W' h => Cells.at_ (Cells.below h d0) 0
  have qd0_1 : ∀ W', Below w1.heap.size w1 W' → World.cell? W' ⟨w.heap.size, 1, none⟩ = some (.int .u8 a1) := fun W' h => Cells.at_ (Cells.below h d0) 1
  have qd0_2 : ∀ W', Below w1.heap.size w1 W' → World.cell? W' ⟨w.heap.size, 2, none⟩ = some (.int .u8 a2) := fun W' h => Cells.at_ (Cells.below h d0) 2
  have qd0_3 : ∀ W', Below w1.heap.size w1 W' → World.cell? W' ⟨w.heap.size, 3, none⟩ = some (.int .u8 a3) := fun W' h => Cells.at_ (Cells.below h d0) 3
  have qd0_4 : ∀ W', Below w1.heap.size w1 W' → World.cell? W' ⟨w.heap.size, 4, none⟩ = some (.int .u8 a4) := fun W' h => Cells.at_ (Cells.below h d0) 4
  have qd0_5 : ∀ W', Below w1.heap.size w1 W' → World.cell? W' ⟨w.heap.size, 5, none⟩ = some (.int .u8 a5) := fun W' h => Cells.at_ (Cells.below h d0) 5
  have bb : Below w1.heap.size w1 w1 := Below.refl _ _
  have L0 := hide l0; have D0 := hide d0
  clear l0 d0
  go_upto_region 2 with (go_at_call 22; (refine (CL.out _ L0.out).mono ?_); rintro e w2 ⟨vl, rfl, rl, b2', fl⟩)
  obtain ⟨A, c, hA, hrow⟩ := RR.rows rl
  subst hA
  have HA := hide hrow
  clear rl fl qd0_0 qd0_1 qd0_2 qd0_3 qd0_4 qd0_5 bb hrow
  replace D0 := hide (Cells.below b2' D0.out)
  replace L0 := hide (bstep L0.out b2')
  replace T1 := hide (TS.b L0.out T1.out)
  replace T2 := hide (DS.b L0.out T2.out)
  have hT := T2.out.tbl
  rw [HV.out, ← HN.out] at hT
  rw [← HN.out]
  have xhT_0 : w2.cell? ⟨B', 0, none⟩ = some (.int .u32 151587081) := hT.at_ 0
  have xhT_1 : w2.cell? ⟨B', 1, none⟩ = some (.int .u32 167772160) := hT.at_ 1
  have xhT_2 : w2.cell? ⟨B', 2, none⟩ = some (.int .i64 8) := hT.at_ 2
  have xhT_3 : w2.cell? ⟨B', 3, none⟩ = some (.slice A' n c') := hT.at_ 3
  clear hT b2'
  go_upto_region 4 with fail
  clear xhT_0 xhT_1 xhT_2 xhT_3
  generalize w2 = w3 at *
  go_wp2_with fail
  go_loopg [8] n (fun gg sj wr => ∃ kk : Nat, kk ≤ n ∧ n - kk ≤ gg ∧ sj = .int .i64 kk ∧ Aside (Below w3.heap.size w3 wr))
  case atStart => exact ⟨0, Nat.zero_le _, by omega, rfl, Below.refl _ w3⟩
  case round =>
    obtain ⟨kk, hkk, hg, rfl, BW⟩ := hrel
    by_cases hlt : kk < n
    · have hltz : (kk : Int) < (n : Int) := by omega
      have hl : kk < l.length := by have := HN.out; omega
      obtain ⟨g, rfl, hg0, hrow⟩ := HA.out (by omega)
      obtain ⟨g', hA', hg0', hrow'⟩ := HR.out (by omega)
      have e2 := (DS.b BW.out T2.out).tbl
      rw [HV.out, ← HN.out, hA'] at e2
      have qe2_0 : ∀ W', Below wr.heap.size wr W' → World.cell? W' ⟨B', 0, none⟩ = some (.int .u32 151587081) := fun W' h => Cells.at_ (Cells.below h e2) 0
      have qe2_1 : ∀ W', Below wr.heap.size wr W' → World.cell? W' ⟨B', 1, none⟩ = some (.int .u32 167772160) := fun W' h => Cells.at_ (Cells.below h e2) 1
      have qe2_2 : ∀ W', Below wr.heap.size wr W' → World.cell? W' ⟨B', 2, none⟩ = some (.int .i64 8) := fun W' h => Cells.at_ (Cells.below h e2) 2
      have qe2_3 : ∀ W', Below wr.heap.size wr W' → World.cell? W' ⟨B', 3, none⟩ = some (.slice (some ⟨g', 0, none⟩) n c') := fun W' h => Cells.at_ (Cells.below h e2) 3
      clear e2 hA'
      have bb : Below wr.heap.size wr wr := Below.refl _ _
      have hcell : ∀ i u, i < 11 → (l[kk]).cells.toList[i]? = some u → ∀ W', Below wr.heap.size wr W' → World.cell? W' ⟨g, kk * 11 + i, none⟩ = some u := fun i u hi hu W' hW => by
        rw [(bstep BW.out hW).cell (p := ⟨g, kk * 11 + i, none⟩) hg0]
        exact hrow kk hl i u hi hu
      have hcell' : ∀ i u, i < 11 → (l[kk]).cells.toList[i]? = some u → ∀ W', Below wr.heap.size wr W' → World.cell? W' ⟨g', kk * 11 + i, none⟩ = some u := fun i u hi hu W' hW => by
        rw [(bstep (bstep L0.out BW.out) hW).cell (p := ⟨g', kk * 11 + i, none⟩) hg0']
        exact hrow' kk hl i u hi hu
      obtain ⟨r, hr⟩ : ∃ r, r = l[kk] := ⟨_, rfl⟩
      rw [← hr] at hcell hcell'
      have z0 : ∀ W', Below wr.heap.size wr W' → World.cell? W' ⟨g, kk * 11, none⟩ = some (.int .i64 r.k) := hcell 0 _ (by omega) rfl
      have y0 : ∀ W', Below wr.heap.size wr W' → World.cell? W' ⟨g', kk * 11, none⟩ = some (.int .i64 r.k) := hcell' 0 _ (by omega) rfl
      have z1 : ∀ W', Below wr.heap.size wr W' → World.cell? W' ⟨g, kk * 11 + 1, none⟩ = some (.int .u8 r.p) := hcell 1 _ (by omega) rfl
      have y1 : ∀ W', Below wr.heap.size wr W' → World.cell? W' ⟨g', kk * 11 + 1, none⟩ = some (.int .u8 r.p) := hcell' 1 _ (by omega) rfl
      have z2 : ∀ W', Below wr.heap.size wr W' → World.cell? W' ⟨g, kk * 11 + 2, none⟩ = some (.int .u32 r.sa) := hcell 2 _ (by omega) rfl
      have y2 : ∀ W', Below wr.heap.size wr W' → World.cell? W' ⟨g', kk * 11 + 2, none⟩ = some (.int .u32 r.sa) := hcell' 2 _ (by omega) rfl
      have z3 : ∀ W', Below wr.heap.size wr W' → World.cell? W' ⟨g, kk * 11 + 3, none⟩ = some (.int .i64 r.sb) := hcell 3 _ (by omega) rfl
      have y3 : ∀ W', Below wr.heap.size wr W' → World.cell? W' ⟨g', kk * 11 + 3, none⟩ = some (.int .i64 r.sb) := hcell' 3 _ (by omega) rfl
      have z4 : ∀ W', Below wr.heap.size wr W' → World.cell? W' ⟨g, kk * 11 + 4, none⟩ = some (.int .u32 r.da) := hcell 4 _ (by omega) rfl
      have y4 : ∀ W', Below wr.heap.size wr W' → World.cell? W' ⟨g', kk * 11 + 4, none⟩ = some (.int .u32 r.da) := hcell' 4 _ (by omega) rfl
      have z5 : ∀ W', Below wr.heap.size wr W' → World.cell? W' ⟨g, kk * 11 + 5, none⟩ = some (.int .i64 r.db) := hcell 5 _ (by omega) rfl
      have y5 : ∀ W', Below wr.heap.size wr W' → World.cell? W' ⟨g', kk * 11 + 5, none⟩ = some (.int .i64 r.db) := hcell' 5 _ (by omega) rfl
      have z6 : ∀ W', Below wr.heap.size wr W' → World.cell? W' ⟨g, kk * 11 + 6, none⟩ = some (.int .u32 r.e) := hcell 6 _ (by omega) rfl
      have y6 : ∀ W', Below wr.heap.size wr W' → World.cell? W' ⟨g', kk * 11 + 6, none⟩ = some (.int .u32 r.e) := hcell' 6 _ (by omega) rfl
      have z7 : ∀ W', Below wr.heap.size wr W' → World.cell? W' ⟨g, kk * 11 + 7, none⟩ = some (.int .u16 r.f) := hcell 7 _ (by omega) rfl
      have y7 : ∀ W', Below wr.heap.size wr W' → World.cell? W' ⟨g', kk * 11 + 7, none⟩ = some (.int .u16 r.f) := hcell' 7 _ (by omega) rfl
      have z8 : ∀ W', Below wr.heap.size wr W' → World.cell? W' ⟨g, kk * 11 + 8, none⟩ = some (.int .u16 r.t) := hcell 8 _ (by omega) rfl
      have y8 : ∀ W', Below wr.heap.size wr W' → World.cell? W' ⟨g', kk * 11 + 8, none⟩ = some (.int .u16 r.t) := hcell' 8 _ (by omega) rfl
      have z9 : ∀ W', Below wr.heap.size wr W' → World.cell? W' ⟨g, kk * 11 + 9, none⟩ = some (.int .u32 r.ia) := hcell 9 _ (by omega) rfl
      have y9 : ∀ W', Below wr.heap.size wr W' → World.cell? W' ⟨g', kk * 11 + 9, none⟩ = some (.int .u32 r.ia) := hcell' 9 _ (by omega) rfl
      have z10 : ∀ W', Below wr.heap.size wr W' → World.cell? W' ⟨g, kk * 11 + 10, none⟩ = some (.int .u16 r.ip) := hcell 10 _ (by omega) rfl
      have y10 : ∀ W', Below wr.heap.size wr W' → World.cell? W' ⟨g', kk * 11 + 10, none⟩ = some (.int .u16 r.ip) := hcell' 10 _ (by omega) rfl
      have BW' := hide BW
      clear hcell hcell' hr hrow hrow' hg0 hg0' BW
      go_upto_region 7 with fail
      focus
        refine wp_region_J [] (fun W => Below wr.heap.size wr W) (by kernel_rfl) (bb.drew) (fun hS0 => ?_)
        refine wpAnyJ_take (i := 0) (v := ?v0_1) rfl (by kernel_rfl) (by kernel_rfl) (by kernel_rfl) (by kernel_rfl) (fun _ _ _ h => h) (Or.inl (And.intro (by kernel_rfl) ?q0_1)) hS0 ?r0_1; (case q0_1 => (intro w hx; (try dsimp only); (try go_simp); (try with_reducible rfl)))
        (try simp only [Act.put, List.setIfInBounds_toArray, List.set_cons_zero, List.set_cons_succ, List.getElem_toArray, List.getElem_cons_succ, List.getElem_cons_zero])
        refine wpAnyJ_take (i := 1) (v := ?v1_2) rfl (by kernel_rfl) (by kernel_rfl) (by kernel_rfl) (by kernel_rfl) (fun _ _ _ h => h) (Or.inl (And.intro (by kernel_rfl) ?q1_2)) hS0 ?r1_2; (case q1_2 => (intro w hx; (try dsimp only); (try go_simp); (try with_reducible rfl)))
        (try simp only [Act.put, List.setIfInBounds_toArray, List.set_cons_zero, List.set_cons_succ, List.getElem_toArray, List.getElem_cons_succ, List.getElem_cons_zero])
        refine wpAnyJ_take (i := 2) (v := ?v2_3) rfl (by kernel_rfl) (by kernel_rfl) (by kernel_rfl) (by kernel_rfl) (fun _ _ _ h => h) (Or.inl (And.intro (by kernel_rfl) ?q2_3)) hS0 ?r2_3; (case q2_3 => (intro w hx; (try dsimp only); (try go_simp); (try with_reducible rfl)))
        (try simp only [Act.put, List.setIfInBounds_toArray, List.set_cons_zero, List.set_cons_succ, List.getElem_toArray, List.getElem_cons_succ, List.getElem_cons_zero])
        refine wpAnyJ_take (i := 3) (v := ?v3_4) rfl (by kernel_rfl) (by kernel_rfl) (by kernel_rfl) (by kernel_rfl) (fun _ _ _ h => h) (Or.inl (And.intro (by kernel_rfl) ?q3_4)) hS0 ?r3_4; (case q3_4 => (intro w hx; (try dsimp only); (try go_simp); (try with_reducible rfl)))
        (try simp only [Act.put, List.setIfInBounds_toArray, List.set_cons_zero, List.set_cons_succ, List.getElem_toArray, List.getElem_cons_succ, List.getElem_cons_zero])
        refine wpAnyJ_take (i := 4) (v := ?v4_5) rfl (by kernel_rfl) (by kernel_rfl) (by kernel_rfl) (by kernel_rfl) (fun _ _ _ h => h) (Or.inl (And.intro (by kernel_rfl) ?q4_5)) hS0 ?r4_5; (case q4_5 => (intro w hx; (try dsimp only); (try go_simp); (try with_reducible rfl)))
        (try simp only [Act.put, List.setIfInBounds_toArray, List.set_cons_zero, List.set_cons_succ, List.getElem_toArray, List.getElem_cons_succ, List.getElem_cons_zero])
        refine wpAnyJ_take (i := 5) (v := ?v5_6) rfl (by kernel_rfl) (by kernel_rfl) (by kernel_rfl) (by kernel_rfl) (fun _ _ _ h => h) (Or.inl (And.intro (by kernel_rfl) ?q5_6)) hS0 ?r5_6; (case q5_6 => (intro w hx; (try dsimp only); (try go_simp); (try with_reducible rfl)))
        (try simp only [Act.put, List.setIfInBounds_toArray, List.set_cons_zero, List.set_cons_succ, List.getElem_toArray, List.getElem_cons_succ, List.getElem_cons_zero])
        refine wpAnyJ_take (i := 6) (v := ?v6_7) rfl (by kernel_rfl) (by kernel_rfl) (by kernel_rfl) (by kernel_rfl) (fun _ _ _ h => h) (Or.inl (And.intro (by kernel_rfl) ?q6_7)) hS0 ?r6_7; (case q6_7 => (intro w hx; (try dsimp only); (try go_simp); (try with_reducible rfl)))
        (try simp only [Act.put, List.setIfInBounds_toArray, List.set_cons_zero, List.set_cons_succ, List.getElem_toArray, List.getElem_cons_succ, List.getElem_cons_zero])
        refine wpAnyJ_take (i := 7) (v := ?v7_8) rfl (by kernel_rfl) (by kernel_rfl) (by kernel_rfl) (by kernel_rfl) (fun _ _ _ h => h) (Or.inl (And.intro (by kernel_rfl) ?q7_8)) hS0 ?r7_8; (case q7_8 => (intro w hx; (try dsimp only); (try go_simp); (try with_reducible rfl)))
        (try simp only [Act.put, List.setIfInBounds_toArray, List.set_cons_zero, List.set_cons_succ, List.getElem_toArray, List.getElem_cons_succ, List.getElem_cons_zero])
        refine wpAnyJ_take (i := 8) (v := ?v8_9) rfl (by kernel_rfl) (by kernel_rfl) (by kernel_rfl) (by kernel_rfl) (fun _ _ _ h => h) (Or.inl (And.intro (by kernel_rfl) ?q8_9)) hS0 ?r8_9; (case q8_9 => (intro w hx; (try dsimp only); (try go_simp); (try with_reducible rfl)))
        (try simp only [Act.put, List.setIfInBounds_toArray, List.set_cons_zero, List.set_cons_succ, List.getElem_toArray, List.getElem_cons_succ, List.getElem_cons_zero])
        refine wpAnyJ_take (i := 9) (v := ?v9_10) rfl (by kernel_rfl) (by kernel_rfl) (by kernel_rfl) (by kernel_rfl) (fun _ _ _ h => h) (Or.inl (And.intro (by kernel_rfl) ?q9_10)) hS0 ?r9_10; (case q9_10 => (intro w hx; (try dsimp only); (try go_simp); (try with_reducible rfl)))
        (try simp only [Act.put, List.setIfInBounds_toArray, List.set_cons_zero, List.set_cons_succ, List.getElem_toArray, List.getElem_cons_succ, List.getElem_cons_zero])
        refine wpAnyJ_take (i := 10) (v := ?v10_11) rfl (by kernel_rfl) (by kernel_rfl) (by kernel_rfl) (by kernel_rfl) (fun _ _ _ h => h) (Or.inl (And.intro (by kernel_rfl) ?q10_11)) hS0 ?r10_11; (case q10_11 => (intro w hx; (try dsimp only); (try go_simp); (try with_reducible rfl)))
        (try simp only [Act.put, List.setIfInBounds_toArray, List.set_cons_zero, List.set_cons_succ, List.getElem_toArray, List.getElem_cons_succ, List.getElem_cons_zero])
        refine wpAnyJ_take (i := 11) (v := ?v11_12) rfl (by kernel_rfl) (by kernel_rfl) (by kernel_rfl) (by kernel_rfl) (fun _ _ _ h => h) (Or.inl (And.intro (by kernel_rfl) ?q11_12)) hS0 ?r11_12; (case q11_12 => (intro w hx; (try dsimp only); (try go_simp); (try with_reducible rfl)))
        (try simp only [Act.put, List.setIfInBounds_toArray, List.set_cons_zero, List.set_cons_succ, List.getElem_toArray, List.getElem_cons_succ, List.getElem_cons_zero])
        refine wpAnyJ_done (by kernel_rfl) ?_ _
      go_wp2_with fail
      go_roundg (n - (kk + 1))
      case measure => omega
      case rel =>
        exact ⟨kk + 1, by omega, by omega, by go_num, (show Aside _ from bstep BW'.out.out hS0)⟩
    · have hltz : ¬ (kk : Int) < (n : Int) := by omega
      have : kk = n := by omega
      subst this
      replace L0 := hide (bstep L0.out BW.out); replace D0 := hide (Cells.below BW.out D0.out); replace T1 := hide (TS.b BW.out T1.out); replace T2 := hide (DS.b BW.out T2.out)
      clear BW HA HV HR
      generalize wr = w4 at *
      have ud0 := D0.out
      have xud0_0 : w4.cell? ⟨w.heap.size, 0, none⟩ = some (.int .u8 a0) := ud0.at_ 0
      have xud0_1 : w4.cell? ⟨w.heap.size, 1, none⟩ = some (.int .u8 a1) := ud0.at_ 1
      have xud0_2 : w4.cell? ⟨w.heap.size, 2, none⟩ = some (.int .u8 a2) := ud0.at_ 2
      have xud0_3 : w4.cell? ⟨w.heap.size, 3, none⟩ = some (.int .u8 a3) := ud0.at_ 3
      have xud0_4 : w4.cell? ⟨w.heap.size, 4, none⟩ = some (.int .u8 a4) := ud0.at_ 4
      have xud0_5 : w4.cell? ⟨w.heap.size, 5, none⟩ = some (.int .u8 a5) := ud0.at_ 5
      clear ud0
      go_upto_region 10 with (go_at_call 21; (with_reducible refine (CF.out _).mono ?_); rintro e2 w2 ⟨rfl, b2⟩)
      clear xud0_0 xud0_1 xud0_2 xud0_3 xud0_4 xud0_5
      have nn := Cells.new w2 #[.int .u8 q1, .int .u32 q2, .int .u16 q3, .int .u32 q4, .int .u16 q5] 49
      have bn : Below w4.heap.size w4 (w2.alloc (.cells #[.int .u8 q1, .int .u32 q2, .int .u16 q3, .int .u32 q4, .int .u16 q5] 49)) := bstep b2 (fresh_below _ _)
      replace D0 := hide (Cells.below bn D0.out)
      replace T1 := hide (TS.b bn T1.out)
      replace T2 := hide (DS.b bn T2.out)
      replace L0 := hide (bstep L0.out bn)
      clear bn b2
      generalize w2.heap.size = g9 at nn ⊢
      generalize (w2.alloc (.cells #[.int .u8 q1, .int .u32 q2, .int .u16 q3, .int .u32 q4, .int .u16 q5] 49)) = w5 at *
      have kg9 := Cells.lt nn
      have D9 := hide nn
      clear nn
      have ud0 := D0.out
      have xud0_0 : w5.cell? ⟨w.heap.size, 0, none⟩ = some (.int .u8 a0) := ud0.at_ 0
      have xud0_1 : w5.cell? ⟨w.heap.size, 1, none⟩ = some (.int .u8 a1) := ud0.at_ 1
      have xud0_2 : w5.cell? ⟨w.heap.size, 2, none⟩ = some (.int .u8 a2) := ud0.at_ 2
      have xud0_3 : w5.cell? ⟨w.heap.size, 3, none⟩ = some (.int .u8 a3) := ud0.at_ 3
      have xud0_4 : w5.cell? ⟨w.heap.size, 4, none⟩ = some (.int .u8 a4) := ud0.at_ 4
      have xud0_5 : w5.cell? ⟨w.heap.size, 5, none⟩ = some (.int .u8 a5) := ud0.at_ 5
      clear ud0
      have ud9 := D9.out
      have xud9_0 : w5.cell? ⟨g9, 0, none⟩ = some (.int .u8 q1) := ud9.at_ 0
      have xud9_1 : w5.cell? ⟨g9, 1, none⟩ = some (.int .u32 q2) := ud9.at_ 1
      have xud9_2 : w5.cell? ⟨g9, 2, none⟩ = some (.int .u16 q3) := ud9.at_ 2
      have xud9_3 : w5.cell? ⟨g9, 3, none⟩ = some (.int .u32 q4) := ud9.at_ 3
      have xud9_4 : w5.cell? ⟨g9, 4, none⟩ = some (.int .u16 q5) := ud9.at_ 4
      clear ud9
      go_upto_region 11 with fail
      clear xud0_0 xud0_1 xud0_2 xud0_3 xud0_4 xud0_5 xud9_0 xud9_1 xud9_2 xud9_3 xud9_4
      have nn := Cells.new w5 #[.int .u32 (151587081 + m2), .int .u16 q5] 28
      have bn : Below w5.heap.size w5 (w5.alloc (.cells #[.int .u32 (151587081 + m2), .int .u16 q5] 28)) := fresh_below _ _
      replace D0 := hide (Cells.below bn D0.out)
      replace T1 := hide (TS.b bn T1.out)
      replace T2 := hide (DS.b bn T2.out)
      replace D9 := hide (Cells.below bn D9.out)
      replace L0 := hide (bstep L0.out bn)
      clear bn
      generalize w5.heap.size = g10 at nn ⊢
      generalize (w5.alloc (.cells #[.int .u32 (151587081 + m2), .int .u16 q5] 28)) = w6 at *
      have kg10 := Cells.lt nn
      have D10 := hide nn
      clear nn
      obtain ⟨R1, hR1⟩ : ∃ R1, R1 = firstR 151587081 (stP q1 (151587081 + m2) q5) l := ⟨_, rfl⟩
      obtain ⟨R2, hR2⟩ : ∃ R2, R2 = firstR 151587081 (owP q1 q2 q3) l := ⟨_, rfl⟩
      obtain ⟨R3, hR3⟩ : ∃ R3, R3 = firstR 151587081 (srcP q1 q2 q4) l := ⟨_, rfl⟩
      obtain ⟨x1, hx1⟩ : ∃ x1, x1 = l.any (stP q1 (151587081 + m2) q5) := ⟨_, rfl⟩
      obtain ⟨x2, hx2⟩ : ∃ x2, x2 = l.any (owP q1 q2 q3) := ⟨_, rfl⟩
      obtain ⟨x3, hx3⟩ : ∃ x3, x3 = l.any (srcP q1 q2 q4) := ⟨_, rfl⟩
      have cs1 : ∀ W, TS W B 151587081 167772160 8 l v → _ := fun W hW => t_Static W B _ _ _ v l hW HL.out q1 (151587081 + m2) q5
      have cs2 : ∀ W, DS W B' 151587081 167772160 8 l v' → _ := fun W hW => d_Static W B' _ _ _ v' l hW HL.out q1 (151587081 + m2) q5
      have co1 : ∀ W, TS W B 151587081 167772160 8 l v → _ := fun W hW => t_Own W B _ _ _ v l hW HL.out q1 q2 q3
      have co2 : ∀ W, DS W B' 151587081 167772160 8 l v' → _ := fun W hW => d_OwnRule W B' _ _ _ v' l hW HL.out q1 q2 q3
      have cr1 : ∀ W, TS W B 151587081 167772160 8 l v → _ := fun W hW => t_Source W B _ _ _ v l hW HL.out OK.out q1 q2 q3 q4 q5 Q2.out Q4.out
      have cr2 : ∀ W, DS W B' 151587081 167772160 8 l v' → _ := fun W hW => d_Source W B' _ _ _ v' l hW HL.out OK.out q1 q2 q3 q4 q5 Q2.out Q4.out
      rw [← firstR_raw 151587081 _ l (fun r hr => by unfold stP at hr; simp at hr; exact hr.1.1.1)] at cs2
      rw [← firstR_raw 151587081 _ l (fun r hr => by unfold owP at hr; simp at hr; exact hr.1.1)] at co2
      rw [← hR1, ← hx1] at cs1 cs2
      rw [← hR2, ← hx2] at co1 co2
      rw [← hR3, ← hx3] at cr1 cr2
      unfold Rule.cells at cs1 cs2 co1 co2 cr1 cr2
      have CS1 := hide cs1; have CS2 := hide cs2; have CO1 := hide co1; have CO2 := hide co2; have CR1 := hide cr1; have CR2 := hide cr2
      clear cs1 cs2 co1 co2 cr1 cr2 hR1 hR2 hR3 hx1 hx2 hx3
      have ud9 := D9.out
      have xud9_0 : w6.cell? ⟨g9, 0, none⟩ = some (.int .u8 q1) := ud9.at_ 0
      have xud9_1 : w6.cell? ⟨g9, 1, none⟩ = some (.int .u32 q2) := ud9.at_ 1
      have xud9_2 : w6.cell? ⟨g9, 2, none⟩ = some (.int .u16 q3) := ud9.at_ 2
      have xud9_3 : w6.cell? ⟨g9, 3, none⟩ = some (.int .u32 q4) := ud9.at_ 3
      have xud9_4 : w6.cell? ⟨g9, 4, none⟩ = some (.int .u16 q5) := ud9.at_ 4
      clear ud9
      have ud10 := D10.out
      have xud10_0 : w6.cell? ⟨g10, 0, none⟩ = some (.int .u32 (151587081 + m2)) := ud10.at_ 0
      have xud10_1 : w6.cell? ⟨g10, 1, none⟩ = some (.int .u16 q5) := ud10.at_ 1
      clear ud10
      go_upto_region 12 with (go_at_call 28; (with_reducible refine (CS1.out _ T1.out).mono ?_); rintro e2 w2 ⟨rfl, b2⟩)
      clear xud9_0 xud9_1 xud9_2 xud9_3 xud9_4 xud10_0 xud10_1
      have nn := Cells.new w2 #[.int .i64 R1.k, .int .u8 R1.p, .int .u32 R1.sa, .int .i64 R1.sb, .int .u32 R1.da, .int .i64 R1.db, .int .u32 R1.e, .int .u16 R1.f, .int .u16 R1.t, .int .u32 R1.ia, .int .u16 R1.ip] 30
      have bn : Below w6.heap.size w6 (w2.alloc (.cells #[.int .i64 R1.k, .int .u8 R1.p, .int .u32 R1.sa, .int .i64 R1.sb, .int .u32 R1.da, .int .i64 R1.db, .int .u32 R1.e, .int .u16 R1.f, .int .u16 R1.t, .int .u32 R1.ia, .int .u16 R1.ip] 30)) := bstep b2 (fresh_below _ _)
      replace D0 := hide (Cells.below bn D0.out)
      replace T1 := hide (TS.b bn T1.out)
      replace T2 := hide (DS.b bn T2.out)
      replace D9 := hide (Cells.below bn D9.out)
      replace D10 := hide (Cells.below bn D10.out)
      replace L0 := hide (bstep L0.out bn)
      clear bn b2
      generalize w2.heap.size = g11 at nn ⊢
      generalize (w2.alloc (.cells #[.int .i64 R1.k, .int .u8 R1.p, .int .u32 R1.sa, .int .i64 R1.sb, .int .u32 R1.da, .int .i64 R1.db, .int .u32 R1.e, .int .u16 R1.f, .int .u16 R1.t, .int .u32 R1.ia, .int .u16 R1.ip] 30)) = w7 at *
      have kg11 := Cells.lt nn
      have D11 := hide nn
      clear nn
      have ud9 := D9.out
      have xud9_0 : w7.cell? ⟨g9, 0, none⟩ = some (.int .u8 q1) := ud9.at_ 0
      have xud9_1 : w7.cell? ⟨g9, 1, none⟩ = some (.int .u32 q2) := ud9.at_ 1
      have xud9_2 : w7.cell? ⟨g9, 2, none⟩ = some (.int .u16 q3) := ud9.at_ 2
      have xud9_3 : w7.cell? ⟨g9, 3, none⟩ = some (.int .u32 q4) := ud9.at_ 3
      have xud9_4 : w7.cell? ⟨g9, 4, none⟩ = some (.int .u16 q5) := ud9.at_ 4
      clear ud9
      have ud10 := D10.out
      have xud10_0 : w7.cell? ⟨g10, 0, none⟩ = some (.int .u32 (151587081 + m2)) := ud10.at_ 0
      have xud10_1 : w7.cell? ⟨g10, 1, none⟩ = some (.int .u16 q5) := ud10.at_ 1
      clear ud10
      go_upto_region 13 with (go_at_call 56; (with_reducible refine (CS2.out _ T2.out).mono ?_); rintro e2 w2 ⟨rfl, b2⟩)
      clear xud9_0 xud9_1 xud9_2 xud9_3 xud9_4 xud10_0 xud10_1
      have nn := Cells.new w2 #[.int .i64 R1.k, .int .u8 R1.p, .int .u32 R1.sa, .int .i64 R1.sb, .int .u32 R1.da, .int .i64 R1.db, .int .u32 R1.e, .int .u16 R1.f, .int .u16 R1.t, .int .u32 R1.ia, .int .u16 R1.ip] 30
      have bn : Below w7.heap.size w7 (w2.alloc (.cells #[.int .i64 R1.k, .int .u8 R1.p, .int .u32 R1.sa, .int .i64 R1.sb, .int .u32 R1.da, .int .i64 R1.db, .int .u32 R1.e, .int .u16 R1.f, .int .u16 R1.t, .int .u32 R1.ia, .int .u16 R1.ip] 30)) := bstep b2 (fresh_below _ _)
      replace D0 := hide (Cells.below bn D0.out)
      replace T1 := hide (TS.b bn T1.out)
      replace T2 := hide (DS.b bn T2.out)
      replace D9 := hide (Cells.below bn D9.out)
      replace D10 := hide (Cells.below bn D10.out)
      replace D11 := hide (Cells.below bn D11.out)
      replace L0 := hide (bstep L0.out bn)
      clear bn b2
      generalize w2.heap.size = g12 at nn ⊢
      generalize (w2.alloc (.cells #[.int .i64 R1.k, .int .u8 R1.p, .int .u32 R1.sa, .int .i64 R1.sb, .int .u32 R1.da, .int .i64 R1.db, .int .u32 R1.e, .int .u16 R1.f, .int .u16 R1.t, .int .u32 R1.ia, .int .u16 R1.ip] 30)) = w8 at *
      have kg12 := Cells.lt nn
      have D12 := hide nn
      clear nn
      have ud9 := D9.out
      have xud9_0 : w8.cell? ⟨g9, 0, none⟩ = some (.int .u8 q1) := ud9.at_ 0
      have xud9_1 : w8.cell? ⟨g9, 1, none⟩ = some (.int .u32 q2) := ud9.at_ 1
      have xud9_2 : w8.cell? ⟨g9, 2, none⟩ = some (.int .u16 q3) := ud9.at_ 2
      have xud9_3 : w8.cell? ⟨g9, 3, none⟩ = some (.int .u32 q4) := ud9.at_ 3
      have xud9_4 : w8.cell? ⟨g9, 4, none⟩ = some (.int .u16 q5) := ud9.at_ 4
      clear ud9
      go_upto_region 14 with (go_at_call 29; (with_reducible refine (CO1.out _ T1.out).mono ?_); rintro e2 w2 ⟨rfl, b2⟩)
      clear xud9_0 xud9_1 xud9_2 xud9_3 xud9_4
      have nn := Cells.new w2 #[.int .i64 R2.k, .int .u8 R2.p, .int .u32 R2.sa, .int .i64 R2.sb, .int .u32 R2.da, .int .i64 R2.db, .int .u32 R2.e, .int .u16 R2.f, .int .u16 R2.t, .int .u32 R2.ia, .int .u16 R2.ip] 30
      have bn : Below w8.heap.size w8 (w2.alloc (.cells #[.int .i64 R2.k, .int .u8 R2.p, .int .u32 R2.sa, .int .i64 R2.sb, .int .u32 R2.da, .int .i64 R2.db, .int .u32 R2.e, .int .u16 R2.f, .int .u16 R2.t, .int .u32 R2.ia, .int .u16 R2.ip] 30)) := bstep b2 (fresh_below _ _)
      replace D0 := hide (Cells.below bn D0.out)
      replace T1 := hide (TS.b bn T1.out)
      replace T2 := hide (DS.b bn T2.out)
      replace D9 := hide (Cells.below bn D9.out)
      replace D10 := hide (Cells.below bn D10.out)
      replace D11 := hide (Cells.below bn D11.out)
      replace D12 := hide (Cells.below bn D12.out)
      replace L0 := hide (bstep L0.out bn)
      clear bn b2
      generalize w2.heap.size = g13 at nn ⊢
      generalize (w2.alloc (.cells #[.int .i64 R2.k, .int .u8 R2.p, .int .u32 R2.sa, .int .i64 R2.sb, .int .u32 R2.da, .int .i64 R2.db, .int .u32 R2.e, .int .u16 R2.f, .int .u16 R2.t, .int .u32 R2.ia, .int .u16 R2.ip] 30)) = w9 at *
      have kg13 := Cells.lt nn
      have D13 := hide nn
      clear nn
      have ud9 := D9.out
      have xud9_0 : w9.cell? ⟨g9, 0, none⟩ = some (.int .u8 q1) := ud9.at_ 0
      have xud9_1 : w9.cell? ⟨g9, 1, none⟩ = some (.int .u32 q2) := ud9.at_ 1
      have xud9_2 : w9.cell? ⟨g9, 2, none⟩ = some (.int .u16 q3) := ud9.at_ 2
      have xud9_3 : w9.cell? ⟨g9, 3, none⟩ = some (.int .u32 q4) := ud9.at_ 3
      have xud9_4 : w9.cell? ⟨g9, 4, none⟩ = some (.int .u16 q5) := ud9.at_ 4
      clear ud9
      go_upto_region 15 with (go_at_call 57; (with_reducible refine (CO2.out _ T2.out).mono ?_); rintro e2 w2 ⟨rfl, b2⟩)
      clear xud9_0 xud9_1 xud9_2 xud9_3 xud9_4
      have nn := Cells.new w2 #[.int .i64 R2.k, .int .u8 R2.p, .int .u32 R2.sa, .int .i64 R2.sb, .int .u32 R2.da, .int .i64 R2.db, .int .u32 R2.e, .int .u16 R2.f, .int .u16 R2.t, .int .u32 R2.ia, .int .u16 R2.ip] 30
      have bn : Below w9.heap.size w9 (w2.alloc (.cells #[.int .i64 R2.k, .int .u8 R2.p, .int .u32 R2.sa, .int .i64 R2.sb, .int .u32 R2.da, .int .i64 R2.db, .int .u32 R2.e, .int .u16 R2.f, .int .u16 R2.t, .int .u32 R2.ia, .int .u16 R2.ip] 30)) := bstep b2 (fresh_below _ _)
      replace D0 := hide (Cells.below bn D0.out)
      replace T1 := hide (TS.b bn T1.out)
      replace T2 := hide (DS.b bn T2.out)
      replace D9 := hide (Cells.below bn D9.out)
      replace D10 := hide (Cells.below bn D10.out)
      replace D11 := hide (Cells.below bn D11.out)
      replace D12 := hide (Cells.below bn D12.out)
      replace D13 := hide (Cells.below bn D13.out)
      replace L0 := hide (bstep L0.out bn)
      clear bn b2
      generalize w2.heap.size = g14 at nn ⊢
      generalize (w2.alloc (.cells #[.int .i64 R2.k, .int .u8 R2.p, .int .u32 R2.sa, .int .i64 R2.sb, .int .u32 R2.da, .int .i64 R2.db, .int .u32 R2.e, .int .u16 R2.f, .int .u16 R2.t, .int .u32 R2.ia, .int .u16 R2.ip] 30)) = w10 at *
      have kg14 := Cells.lt nn
      have D14 := hide nn
      clear nn
      have ud9 := D9.out
      have xud9_0 : w10.cell? ⟨g9, 0, none⟩ = some (.int .u8 q1) := ud9.at_ 0
      have xud9_1 : w10.cell? ⟨g9, 1, none⟩ = some (.int .u32 q2) := ud9.at_ 1
      have xud9_2 : w10.cell? ⟨g9, 2, none⟩ = some (.int .u16 q3) := ud9.at_ 2
      have xud9_3 : w10.cell? ⟨g9, 3, none⟩ = some (.int .u32 q4) := ud9.at_ 3
      have xud9_4 : w10.cell? ⟨g9, 4, none⟩ = some (.int .u16 q5) := ud9.at_ 4
      clear ud9
      go_upto_region 16 with (go_at_call 23; (with_reducible refine (CR1.out _ T1.out).mono ?_); rintro e2 w2 ⟨rfl, b2⟩)
      clear xud9_0 xud9_1 xud9_2 xud9_3 xud9_4
      have nn := Cells.new w2 #[.int .i64 R3.k, .int .u8 R3.p, .int .u32 R3.sa, .int .i64 R3.sb, .int .u32 R3.da, .int .i64 R3.db, .int .u32 R3.e, .int .u16 R3.f, .int .u16 R3.t, .int .u32 R3.ia, .int .u16 R3.ip] 30
      have bn : Below w10.heap.size w10 (w2.alloc (.cells #[.int .i64 R3.k, .int .u8 R3.p, .int .u32 R3.sa, .int .i64 R3.sb, .int .u32 R3.da, .int .i64 R3.db, .int .u32 R3.e, .int .u16 R3.f, .int .u16 R3.t, .int .u32 R3.ia, .int .u16 R3.ip] 30)) := bstep b2 (fresh_below _ _)
      replace D0 := hide (Cells.below bn D0.out)
      replace T1 := hide (TS.b bn T1.out)
      replace T2 := hide (DS.b bn T2.out)
      replace D9 := hide (Cells.below bn D9.out)
      replace D10 := hide (Cells.below bn D10.out)
      replace D11 := hide (Cells.below bn D11.out)
      replace D12 := hide (Cells.below bn D12.out)
      replace D13 := hide (Cells.below bn D13.out)
      replace D14 := hide (Cells.below bn D14.out)
      replace L0 := hide (bstep L0.out bn)
      clear bn b2
      generalize w2.heap.size = g15 at nn ⊢
      generalize (w2.alloc (.cells #[.int .i64 R3.k, .int .u8 R3.p, .int .u32 R3.sa, .int .i64 R3.sb, .int .u32 R3.da, .int .i64 R3.db, .int .u32 R3.e, .int .u16 R3.f, .int .u16 R3.t, .int .u32 R3.ia, .int .u16 R3.ip] 30)) = w11 at *
      have kg15 := Cells.lt nn
      have D15 := hide nn
      clear nn
      have ud9 := D9.out
      have xud9_0 : w11.cell? ⟨g9, 0, none⟩ = some (.int .u8 q1) := ud9.at_ 0
      have xud9_1 : w11.cell? ⟨g9, 1, none⟩ = some (.int .u32 q2) := ud9.at_ 1
      have xud9_2 : w11.cell? ⟨g9, 2, none⟩ = some (.int .u16 q3) := ud9.at_ 2
      have xud9_3 : w11.cell? ⟨g9, 3, none⟩ = some (.int .u32 q4) := ud9.at_ 3
      have xud9_4 : w11.cell? ⟨g9, 4, none⟩ = some (.int .u16 q5) := ud9.at_ 4
      clear ud9
      go_upto_region 17 with (go_at_call 58; (with_reducible refine (CR2.out _ T2.out).mono ?_); rintro e2 w2 ⟨rfl, b2⟩)
      clear xud9_0 xud9_1 xud9_2 xud9_3 xud9_4
      have nn := Cells.new w2 #[.int .i64 R3.k, .int .u8 R3.p, .int .u32 R3.sa, .int .i64 R3.sb, .int .u32 R3.da, .int .i64 R3.db, .int .u32 R3.e, .int .u16 R3.f, .int .u16 R3.t, .int .u32 R3.ia, .int .u16 R3.ip] 30
      have bn : Below w11.heap.size w11 (w2.alloc (.cells #[.int .i64 R3.k, .int .u8 R3.p, .int .u32 R3.sa, .int .i64 R3.sb, .int .u32 R3.da, .int .i64 R3.db, .int .u32 R3.e, .int .u16 R3.f, .int .u16 R3.t, .int .u32 R3.ia, .int .u16 R3.ip] 30)) := bstep b2 (fresh_below _ _)
      replace D0 := hide (Cells.below bn D0.out)
      replace T1 := hide (TS.b bn T1.out)
      replace T2 := hide (DS.b bn T2.out)
      replace D9 := hide (Cells.below bn D9.out)
      replace D10 := hide (Cells.below bn D10.out)
      replace D11 := hide (Cells.below bn D11.out)
      replace D12 := hide (Cells.below bn D12.out)
      replace D13 := hide (Cells.below bn D13.out)
      replace D14 := hide (Cells.below bn D14.out)
      replace D15 := hide (Cells.below bn D15.out)
      replace L0 := hide (bstep L0.out bn)
      clear bn b2
      generalize w2.heap.size = g16 at nn ⊢
      generalize (w2.alloc (.cells #[.int .i64 R3.k, .int .u8 R3.p, .int .u32 R3.sa, .int .i64 R3.sb, .int .u32 R3.da, .int .i64 R3.db, .int .u32 R3.e, .int .u16 R3.f, .int .u16 R3.t, .int .u32 R3.ia, .int .u16 R3.ip] 30)) = w12 at *
      have kg16 := Cells.lt nn
      have D16 := hide nn
      clear nn
      have d9 := D9.out; have d10 := D10.out; have d11 := D11.out; have d12 := D12.out; have d13 := D13.out; have d14 := D14.out; have d15 := D15.out; have d16 := D16.out
      have qd9_0 : ∀ W', Below w12.heap.size w12 W' → World.cell? W' ⟨g9, 0, none⟩ = some (.int .u8 q1) := fun W' h => Cells.at_ (Cells.below h d9) 0
      have qd9_1 : ∀ W', Below w12.heap.size w12 W' → World.cell? W' ⟨g9, 1, none⟩ = some (.int .u32 q2) := fun W' h => Cells.at_ (Cells.below h d9) 1
      have qd9_2 : ∀ W', Below w12.heap.size w12 W' → World.cell? W' ⟨g9, 2, none⟩ = some (.int .u16 q3) := fun W' h => Cells.at_ (Cells.below h d9) 2
      have qd9_3 : ∀ W', Below w12.heap.size w12 W' → World.cell? W' ⟨g9, 3, none⟩ = some (.int .u32 q4) := fun W' h => Cells.at_ (Cells.below h d9) 3
      have qd9_4 : ∀ W', Below w12.heap.size w12 W' → World.cell? W' ⟨g9, 4, none⟩ = some (.int .u16 q5) := fun W' h => Cells.at_ (Cells.below h d9) 4
      have qd10_0 : ∀ W', Below w12.heap.size w12 W' → World.cell? W' ⟨g10, 0, none⟩ = some (.int .u32 (151587081 + m2)) := fun W' h => Cells.at_ (Cells.below h d10) 0
      have qd10_1 : ∀ W', Below w12.heap.size w12 W' → World.cell? W' ⟨g10, 1, none⟩ = some (.int .u16 q5) := fun W' h => Cells.at_ (Cells.below h d10) 1
      have qd11_0 : ∀ W', Below w12.heap.size w12 W' → World.cell? W' ⟨g11, 0, none⟩ = some (.int .i64 R1.k) := fun W' h => Cells.at_ (Cells.below h d11) 0
      have qd11_1 : ∀ W', Below w12.heap.size w12 W' → World.cell? W' ⟨g11, 1, none⟩ = some (.int .u8 R1.p) := fun W' h => Cells.at_ (Cells.below h d11) 1
      have qd11_2 : ∀ W', Below w12.heap.size w12 W' → World.cell? W' ⟨g11, 2, none⟩ = some (.int .u32 R1.sa) := fun W' h => Cells.at_ (Cells.below h d11) 2
      have qd11_3 : ∀ W', Below w12.heap.size w12 W' → World.cell? W' ⟨g11, 3, none⟩ = some (.int .i64 R1.sb) := fun W' h => Cells.at_ (Cells.below h d11) 3
      have qd11_4 : ∀ W', Below w12.heap.size w12 W' → World.cell? W' ⟨g11, 4, none⟩ = some (.int .u32 R1.da) := fun W' h => Cells.at_ (Cells.below h d11) 4
      have qd11_5 : ∀ W', Below w12.heap.size w12 W' → World.cell? W' ⟨g11, 5, none⟩ = some (.int .i64 R1.db) := fun W' h => Cells.at_ (Cells.below h d11) 5
      have qd11_6 : ∀ W', Below w12.heap.size w12 W' → World.cell? W' ⟨g11, 6, none⟩ = some (.int .u32 R1.e) := fun W' h => Cells.at_ (Cells.below h d11) 6
      have qd11_7 : ∀ W', Below w12.heap.size w12 W' → World.cell? W' ⟨g11, 7, none⟩ = some (.int .u16 R1.f) := fun W' h => Cells.at_ (Cells.below h d11) 7
      have qd11_8 : ∀ W', Below w12.heap.size w12 W' → World.cell? W' ⟨g11, 8, none⟩ = some (.int .u16 R1.t) := fun W' h => Cells.at_ (Cells.below h d11) 8
      have qd11_9 : ∀ W', Below w12.heap.size w12 W' → World.cell? W' ⟨g11, 9, none⟩ = some (.int .u32 R1.ia) := fun W' h => Cells.at_ (Cells.below h d11) 9
      have qd11_10 : ∀ W', Below w12.heap.size w12 W' → World.cell? W' ⟨g11, 10, none⟩ = some (.int .u16 R1.ip) := fun W' h => Cells.at_ (Cells.below h d11) 10
      have qd12_0 : ∀ W', Below w12.heap.size w12 W' → World.cell? W' ⟨g12, 0, none⟩ = some (.int .i64 R1.k) := fun W' h => Cells.at_ (Cells.below h d12) 0
      have qd12_1 : ∀ W', Below w12.heap.size w12 W' → World.cell? W' ⟨g12, 1, none⟩ = some (.int .u8 R1.p) := fun W' h => Cells.at_ (Cells.below h d12) 1
      have qd12_2 : ∀ W', Below w12.heap.size w12 W' → World.cell? W' ⟨g12, 2, none⟩ = some (.int .u32 R1.sa) := fun W' h => Cells.at_ (Cells.below h d12) 2
      have qd12_3 : ∀ W', Below w12.heap.size w12 W' → World.cell? W' ⟨g12, 3, none⟩ = some (.int .i64 R1.sb) := fun W' h => Cells.at_ (Cells.below h d12) 3
      have qd12_4 : ∀ W', Below w12.heap.size w12 W' → World.cell? W' ⟨g12, 4, none⟩ = some (.int .u32 R1.da) := fun W' h => Cells.at_ (Cells.below h d12) 4
      have qd12_5 : ∀ W', Below w12.heap.size w12 W' → World.cell? W' ⟨g12, 5, none⟩ = some (.int .i64 R1.db) := fun W' h => Cells.at_ (Cells.below h d12) 5
      have qd12_6 : ∀ W', Below w12.heap.size w12 W' → World.cell? W' ⟨g12, 6, none⟩ = some (.int .u32 R1.e) := fun W' h => Cells.at_ (Cells.below h d12) 6
      have qd12_7 : ∀ W', Below w12.heap.size w12 W' → World.cell? W' ⟨g12, 7, none⟩ = some (.int .u16 R1.f) := fun W' h => Cells.at_ (Cells.below h d12) 7
      have qd12_8 : ∀ W', Below w12.heap.size w12 W' → World.cell? W' ⟨g12, 8, none⟩ = some (.int .u16 R1.t) := fun W' h => Cells.at_ (Cells.below h d12) 8
      have qd12_9 : ∀ W', Below w12.heap.size w12 W' → World.cell? W' ⟨g12, 9, none⟩ = some (.int .u32 R1.ia) := fun W' h => Cells.at_ (Cells.below h d12) 9
      have qd12_10 : ∀ W', Below w12.heap.size w12 W' → World.cell? W' ⟨g12, 10, none⟩ = some (.int .u16 R1.ip) := fun W' h => Cells.at_ (Cells.below h d12) 10
      have qd13_0 : ∀ W', Below w12.heap.size w12 W' → World.cell? W' ⟨g13, 0, none⟩ = some (.int .i64 R2.k) := fun W' h => Cells.at_ (Cells.below h d13) 0
      have qd13_1 : ∀ W', Below w12.heap.size w12 W' → World.cell? W' ⟨g13, 1, none⟩ = some (.int .u8 R2.p) := fun W' h => Cells.at_ (Cells.below h d13) 1
      have qd13_2 : ∀ W', Below w12.heap.size w12 W' → World.cell? W' ⟨g13, 2, none⟩ = some (.int .u32 R2.sa) := fun W' h => Cells.at_ (Cells.below h d13) 2
      have qd13_3 : ∀ W', Below w12.heap.size w12 W' → World.cell? W' ⟨g13, 3, none⟩ = some (.int .i64 R2.sb) := fun W' h => Cells.at_ (Cells.below h d13) 3
      have qd13_4 : ∀ W', Below w12.heap.size w12 W' → World.cell? W' ⟨g13, 4, none⟩ = some (.int .u32 R2.da) := fun W' h => Cells.at_ (Cells.below h d13) 4
      have qd13_5 : ∀ W', Below w12.heap.size w12 W' → World.cell? W' ⟨g13, 5, none⟩ = some (.int .i64 R2.db) := fun W' h => Cells.at_ (Cells.below h d13) 5
      have qd13_6 : ∀ W', Below w12.heap.size w12 W' → World.cell? W' ⟨g13, 6, none⟩ = some (.int .u32 R2.e) := fun W' h => Cells.at_ (Cells.below h d13) 6
      have qd13_7 : ∀ W', Below w12.heap.size w12 W' → World.cell? W' ⟨g13, 7, none⟩ = some (.int .u16 R2.f) := fun W' h => Cells.at_ (Cells.below h d13) 7
      have qd13_8 : ∀ W', Below w12.heap.size w12 W' → World.cell? W' ⟨g13, 8, none⟩ = some (.int .u16 R2.t) := fun W' h => Cells.at_ (Cells.below h d13) 8
      have qd13_9 : ∀ W', Below w12.heap.size w12 W' → World.cell? W' ⟨g13, 9, none⟩ = some (.int .u32 R2.ia) := fun W' h => Cells.at_ (Cells.below h d13) 9
      have qd13_10 : ∀ W', Below w12.heap.size w12 W' → World.cell? W' ⟨g13, 10, none⟩ = some (.int .u16 R2.ip) := fun W' h => Cells.at_ (Cells.below h d13) 10
      have qd14_0 : ∀ W', Below w12.heap.size w12 W' → World.cell? W' ⟨g14, 0, none⟩ = some (.int .i64 R2.k) := fun W' h => Cells.at_ (Cells.below h d14) 0
      have qd14_1 : ∀ W', Below w12.heap.size w12 W' → World.cell? W' ⟨g14, 1, none⟩ = some (.int .u8 R2.p) := fun W' h => Cells.at_ (Cells.below h d14) 1
      have qd14_2 : ∀ W', Below w12.heap.size w12 W' → World.cell? W' ⟨g14, 2, none⟩ = some (.int .u32 R2.sa) := fun W' h => Cells.at_ (Cells.below h d14) 2
      have qd14_3 : ∀ W', Below w12.heap.size w12 W' → World.cell? W' ⟨g14, 3, none⟩ = some (.int .i64 R2.sb) := fun W' h => Cells.at_ (Cells.below h d14) 3
      have qd14_4 : ∀ W', Below w12.heap.size w12 W' → World.cell? W' ⟨g14, 4, none⟩ = some (.int .u32 R2.da) := fun W' h => Cells.at_ (Cells.below h d14) 4
      have qd14_5 : ∀ W', Below w12.heap.size w12 W' → World.cell? W' ⟨g14, 5, none⟩ = some (.int .i64 R2.db) := fun W' h => Cells.at_ (Cells.below h d14) 5
      have qd14_6 : ∀ W', Below w12.heap.size w12 W' → World.cell? W' ⟨g14, 6, none⟩ = some (.int .u32 R2.e) := fun W' h => Cells.at_ (Cells.below h d14) 6
      have qd14_7 : ∀ W', Below w12.heap.size w12 W' → World.cell? W' ⟨g14, 7, none⟩ = some (.int .u16 R2.f) := fun W' h => Cells.at_ (Cells.below h d14) 7
      have qd14_8 : ∀ W', Below w12.heap.size w12 W' → World.cell? W' ⟨g14, 8, none⟩ = some (.int .u16 R2.t) := fun W' h => Cells.at_ (Cells.below h d14) 8
      have qd14_9 : ∀ W', Below w12.heap.size w12 W' → World.cell? W' ⟨g14, 9, none⟩ = some (.int .u32 R2.ia) := fun W' h => Cells.at_ (Cells.below h d14) 9
      have qd14_10 : ∀ W', Below w12.heap.size w12 W' → World.cell? W' ⟨g14, 10, none⟩ = some (.int .u16 R2.ip) := fun W' h => Cells.at_ (Cells.below h d14) 10
      have qd15_0 : ∀ W', Below w12.heap.size w12 W' → World.cell? W' ⟨g15, 0, none⟩ = some (.int .i64 R3.k) := fun W' h => Cells.at_ (Cells.below h d15) 0
      have qd15_1 : ∀ W', Below w12.heap.size w12 W' → World.cell? W' ⟨g15, 1, none⟩ = some (.int .u8 R3.p) := fun W' h => Cells.at_ (Cells.below h d15) 1
      have qd15_2 : ∀ W', Below w12.heap.size w12 W' → World.cell? W' ⟨g15, 2, none⟩ = some (.int .u32 R3.sa) := fun W' h => Cells.at_ (Cells.below h d15) 2
      have qd15_3 : ∀ W', Below w12.heap.size w12 W' → World.cell? W' ⟨g15, 3, none⟩ = some (.int .i64 R3.sb) := fun W' h => Cells.at_ (Cells.below h d15) 3
      have qd15_4 : ∀ W', Below w12.heap.size w12 W' → World.cell? W' ⟨g15, 4, none⟩ = some (.int .u32 R3.da) := fun W' h => Cells.at_ (Cells.below h d15) 4
      have qd15_5 : ∀ W', Below w12.heap.size w12 W' → World.cell? W' ⟨g15, 5, none⟩ = some (.int .i64 R3.db) := fun W' h => Cells.at_ (Cells.below h d15) 5
      have qd15_6 : ∀ W', Below w12.heap.size w12 W' → World.cell? W' ⟨g15, 6, none⟩ = some (.int .u32 R3.e) := fun W' h => Cells.at_ (Cells.below h d15) 6
      have qd15_7 : ∀ W', Below w12.heap.size w12 W' → World.cell? W' ⟨g15, 7, none⟩ = some (.int .u16 R3.f) := fun W' h => Cells.at_ (Cells.below h d15) 7
      have qd15_8 : ∀ W', Below w12.heap.size w12 W' → World.cell? W' ⟨g15, 8, none⟩ = some (.int .u16 R3.t) := fun W' h => Cells.at_ (Cells.below h d15) 8
      have qd15_9 : ∀ W', Below w12.heap.size w12 W' → World.cell? W' ⟨g15, 9, none⟩ = some (.int .u32 R3.ia) := fun W' h => Cells.at_ (Cells.below h d15) 9
      have qd15_10 : ∀ W', Below w12.heap.size w12 W' → World.cell? W' ⟨g15, 10, none⟩ = some (.int .u16 R3.ip) := fun W' h => Cells.at_ (Cells.below h d15) 10
      have qd16_0 : ∀ W', Below w12.heap.size w12 W' → World.cell? W' ⟨g16, 0, none⟩ = some (.int .i64 R3.k) := fun W' h => Cells.at_ (Cells.below h d16) 0
      have qd16_1 : ∀ W', Below w12.heap.size w12 W' → World.cell? W' ⟨g16, 1, none⟩ = some (.int .u8 R3.p) := fun W' h => Cells.at_ (Cells.below h d16) 1
      have qd16_2 : ∀ W', Below w12.heap.size w12 W' → World.cell? W' ⟨g16, 2, none⟩ = some (.int .u32 R3.sa) := fun W' h => Cells.at_ (Cells.below h d16) 2
      have qd16_3 : ∀ W', Below w12.heap.size w12 W' → World.cell? W' ⟨g16, 3, none⟩ = some (.int .i64 R3.sb) := fun W' h => Cells.at_ (Cells.below h d16) 3
      have qd16_4 : ∀ W', Below w12.heap.size w12 W' → World.cell? W' ⟨g16, 4, none⟩ = some (.int .u32 R3.da) := fun W' h => Cells.at_ (Cells.below h d16) 4
      have qd16_5 : ∀ W', Below w12.heap.size w12 W' → World.cell? W' ⟨g16, 5, none⟩ = some (.int .i64 R3.db) := fun W' h => Cells.at_ (Cells.below h d16) 5
      have qd16_6 : ∀ W', Below w12.heap.size w12 W' → World.cell? W' ⟨g16, 6, none⟩ = some (.int .u32 R3.e) := fun W' h => Cells.at_ (Cells.below h d16) 6
      have qd16_7 : ∀ W', Below w12.heap.size w12 W' → World.cell? W' ⟨g16, 7, none⟩ = some (.int .u16 R3.f) := fun W' h => Cells.at_ (Cells.below h d16) 7
      have qd16_8 : ∀ W', Below w12.heap.size w12 W' → World.cell? W' ⟨g16, 8, none⟩ = some (.int .u16 R3.t) := fun W' h => Cells.at_ (Cells.below h d16) 8
      have qd16_9 : ∀ W', Below w12.heap.size w12 W' → World.cell? W' ⟨g16, 9, none⟩ = some (.int .u32 R3.ia) := fun W' h => Cells.at_ (Cells.below h d16) 9
      have qd16_10 : ∀ W', Below w12.heap.size w12 W' → World.cell? W' ⟨g16, 10, none⟩ = some (.int .u16 R3.ip) := fun W' h => Cells.at_ (Cells.below h d16) 10
      have bb : Below w12.heap.size w12 w12 := Below.refl _ _
      clear d9 d10 d11 d12 d13 d14 d15 d16
      have cu1 : ∀ W, Below w12.heap.size w12 W → _ := fun W hW => t_Outer W B _ _ _ v l (151587081 + m2) (T1.out.below hW) HL.out
      have cu2 : ∀ W, Below w12.heap.size w12 W → _ := fun W hW => d_Outer W B' _ _ _ v' l (151587081 + m2) (T2.out.below hW) HL.out
      have ci1 : ∀ W, Below w12.heap.size w12 W → _ := fun W hW => t_Inner W B 151587081 167772160 8 q2 v (T1.out.below hW).tbl (by omega) Q2.out
      have ci2 : ∀ W, Below w12.heap.size w12 W → _ := fun W hW => d_Inner W B' 151587081 167772160 8 q2 v' (T2.out.below hW).tbl (by omega) Q2.out
      have cj1 : ∀ W, Below w12.heap.size w12 W → _ := fun W hW => t_Inner W B 151587081 167772160 8 (151587081 + m2) v (T1.out.below hW).tbl (by omega) (by omega)
      have cj2 : ∀ W, Below w12.heap.size w12 W → _ := fun W hW => d_Inner W B' 151587081 167772160 8 (151587081 + m2) v' (T2.out.below hW).tbl (by omega) (by omega)
      generalize outR 151587081 l (151587081 + m2) = y1 at *
      generalize hasP 167772160 8 q2 = y2 at *
      generalize hasP 167772160 8 (151587081 + m2) = y3 at *
      have CU1 := hide cu1; have CU2 := hide cu2; have CI1 := hide ci1; have CI2 := hide ci2; have CJ1 := hide cj1; have CJ2 := hide cj2
      clear cu1 cu2 ci1 ci2 cj1 cj2
      have hx1 : (x1 == x1) = true := by simp
      have hx2 : (x2 == x2) = true := by simp
      have hx3 : (x3 == x3) = true := by simp
      have hy1 : (y1 == y1) = true := by simp
      have hy2 : (y2 == y2) = true := by simp
      have hy3 : (y3 == y3) = true := by simp
      focus
        refine wp_region_J [] (fun W => Below w12.heap.size w12 W) (by kernel_rfl) (bb.drew) (fun hS0 => ?_)
        refine wpAnyJ_take (i := 0) (v := ?v0_13) rfl (by kernel_rfl) (by kernel_rfl) (by kernel_rfl) (by kernel_rfl) (fun _ _ _ h => h) (Or.inl (And.intro (by kernel_rfl) ?q0_13)) hS0 ?r0_13; (case q0_13 => (intro w hx; (try dsimp only); (try go_simp); (try with_reducible rfl)))
        (try simp only [Act.put, List.setIfInBounds_toArray, List.set_cons_zero, List.set_cons_succ, List.getElem_toArray, List.getElem_cons_succ, List.getElem_cons_zero])
        refine wpAnyJ_take (i := 1) (v := ?v1_14) rfl (by kernel_rfl) (by kernel_rfl) (by kernel_rfl) (by kernel_rfl) (fun _ _ _ h => h) (Or.inl (And.intro (by kernel_rfl) ?q1_14)) hS0 ?r1_14; (case q1_14 => (intro w hx; (try dsimp only); (try go_simp); (try with_reducible rfl)))
        (try simp only [Act.put, List.setIfInBounds_toArray, List.set_cons_zero, List.set_cons_succ, List.getElem_toArray, List.getElem_cons_succ, List.getElem_cons_zero])
        refine wpAnyJ_take (i := 2) (v := ?v2_15) rfl (by kernel_rfl) (by kernel_rfl) (by kernel_rfl) (by kernel_rfl) (fun _ _ _ h => h) (Or.inl (And.intro (by kernel_rfl) ?q2_15)) hS0 ?r2_15; (case q2_15 => (intro w hx; (try dsimp only); (try go_simp); (try with_reducible rfl)))
        (try simp only [Act.put, List.setIfInBounds_toArray, List.set_cons_zero, List.set_cons_succ, List.getElem_toArray, List.getElem_cons_succ, List.getElem_cons_zero])
        refine wpAnyJ_take (i := 3) (v := ?v3_16) rfl (by kernel_rfl) (by kernel_rfl) (by kernel_rfl) (by kernel_rfl) (fun _ _ _ h => h) (Or.inl (And.intro (by kernel_rfl) ?q3_16)) hS0 ?r3_16; (case q3_16 => (intro w hx; (try dsimp only); (try go_simp); (try with_reducible rfl)))
        (try simp only [Act.put, List.setIfInBounds_toArray, List.set_cons_zero, List.set_cons_succ, List.getElem_toArray, List.getElem_cons_succ, List.getElem_cons_zero])
        refine wpAnyJ_take (i := 4) (v := ?v4_17) rfl (by kernel_rfl) (by kernel_rfl) (by kernel_rfl) (by kernel_rfl) (fun _ _ _ h => h) (Or.inl (And.intro (by kernel_rfl) ?q4_17)) hS0 ?r4_17; (case q4_17 => (intro w hx; (try dsimp only); (try go_simp); (try with_reducible rfl)))
        (try simp only [Act.put, List.setIfInBounds_toArray, List.set_cons_zero, List.set_cons_succ, List.getElem_toArray, List.getElem_cons_succ, List.getElem_cons_zero])
        refine wpAnyJ_take (i := 5) (v := ?v5_18) rfl (by kernel_rfl) (by kernel_rfl) (by kernel_rfl) (by kernel_rfl) (fun _ _ _ h => h) (Or.inl (And.intro (by kernel_rfl) ?q5_18)) hS0 ?r5_18; (case q5_18 => (intro w hx; (try dsimp only); (try go_simp); (try with_reducible rfl)))
        (try simp only [Act.put, List.setIfInBounds_toArray, List.set_cons_zero, List.set_cons_succ, List.getElem_toArray, List.getElem_cons_succ, List.getElem_cons_zero])
        refine wpAnyJ_take (i := 6) (v := ?v6_19) rfl (by kernel_rfl) (by kernel_rfl) (by kernel_rfl) (by kernel_rfl) (fun _ _ _ h => h) (Or.inl (And.intro (by kernel_rfl) ?q6_19)) hS0 ?r6_19; (case q6_19 => (intro w hx; (try dsimp only); (try go_simp); (try with_reducible rfl)))
        (try simp only [Act.put, List.setIfInBounds_toArray, List.set_cons_zero, List.set_cons_succ, List.getElem_toArray, List.getElem_cons_succ, List.getElem_cons_zero])
        refine wpAnyJ_take (i := 7) (v := ?v7_20) rfl (by kernel_rfl) (by kernel_rfl) (by kernel_rfl) (by kernel_rfl) (fun _ _ _ h => h) (Or.inl (And.intro (by kernel_rfl) ?q7_20)) hS0 ?r7_20; (case q7_20 => (intro w hx; (try dsimp only); (try go_simp); (try with_reducible rfl)))
        (try simp only [Act.put, List.setIfInBounds_toArray, List.set_cons_zero, List.set_cons_succ, List.getElem_toArray, List.getElem_cons_succ, List.getElem_cons_zero])
        refine wpAnyJ_take (i := 8) (v := ?v8_21) rfl (by kernel_rfl) (by kernel_rfl) (by kernel_rfl) (by kernel_rfl) (fun _ _ _ h => h) (Or.inl (And.intro (by kernel_rfl) ?q8_21)) hS0 ?r8_21; (case q8_21 => (intro w hx; (try dsimp only); (try go_simp); (try with_reducible rfl)))
        (try simp only [Act.put, List.setIfInBounds_toArray, List.set_cons_zero, List.set_cons_succ, List.getElem_toArray, List.getElem_cons_succ, List.getElem_cons_zero])
        refine wpAnyJ_take (i := 9) (v := ?v9_22) rfl (by kernel_rfl) (by kernel_rfl) (by kernel_rfl) (by kernel_rfl) (fun _ _ _ h => h) (Or.inl (And.intro (by kernel_rfl) ?q9_22)) hS0 ?r9_22; (case q9_22 => (intro w hx; (try dsimp only); (try go_simp); (try with_reducible rfl)))
        (try simp only [Act.put, List.setIfInBounds_toArray, List.set_cons_zero, List.set_cons_succ, List.getElem_toArray, List.getElem_cons_succ, List.getElem_cons_zero])
        refine wpAnyJ_take (i := 10) (v := ?v10_23) rfl (by kernel_rfl) (by kernel_rfl) (by kernel_rfl) (by kernel_rfl) (fun _ _ _ h => h) (Or.inl (And.intro (by kernel_rfl) ?q10_23)) hS0 ?r10_23; (case q10_23 => (intro w hx; (try dsimp only); (try go_simp); (try with_reducible rfl)))
        (try simp only [Act.put, List.setIfInBounds_toArray, List.set_cons_zero, List.set_cons_succ, List.getElem_toArray, List.getElem_cons_succ, List.getElem_cons_zero])
        refine wpAnyJ_take (i := 11) (v := ?v11_24) rfl (by kernel_rfl) (by kernel_rfl) (by kernel_rfl) (by kernel_rfl) (fun _ _ _ h => h) (Or.inl (And.intro (by kernel_rfl) ?q11_24)) hS0 ?r11_24; (case q11_24 => (intro w hx; (try dsimp only); (try go_simp); (try with_reducible rfl)))
        (try simp only [Act.put, List.setIfInBounds_toArray, List.set_cons_zero, List.set_cons_succ, List.getElem_toArray, List.getElem_cons_succ, List.getElem_cons_zero])
        refine wpAnyJ_take (i := 12) (v := ?v12_25) rfl (by kernel_rfl) (by kernel_rfl) (by kernel_rfl) (by kernel_rfl) (fun _ _ _ h => h) (Or.inl (And.intro (by kernel_rfl) ?q12_25)) hS0 ?r12_25; (case q12_25 => (intro w hx; (try dsimp only); (try go_simp); (try with_reducible rfl)))
        (try simp only [Act.put, List.setIfInBounds_toArray, List.set_cons_zero, List.set_cons_succ, List.getElem_toArray, List.getElem_cons_succ, List.getElem_cons_zero])
        refine wpAnyJ_take (i := 13) (v := ?v13_26) rfl (by kernel_rfl) (by kernel_rfl) (by kernel_rfl) (by kernel_rfl) (fun _ _ _ h => h) (Or.inl (And.intro (by kernel_rfl) ?q13_26)) hS0 ?r13_26; (case q13_26 => (intro w hx; (try dsimp only); (try go_simp); (try with_reducible rfl)))
        (try simp only [Act.put, List.setIfInBounds_toArray, List.set_cons_zero, List.set_cons_succ, List.getElem_toArray, List.getElem_cons_succ, List.getElem_cons_zero])
        refine wpAnyJ_take (i := 14) (v := ?v14_27) rfl (by kernel_rfl) (by kernel_rfl) (by kernel_rfl) (by kernel_rfl) (fun _ _ _ h => h) (Or.inl (And.intro (by kernel_rfl) ?q14_27)) hS0 ?r14_27; (case q14_27 => (intro w hx; (try dsimp only); (try go_simp); (try with_reducible rfl)))
        (try simp only [Act.put, List.setIfInBounds_toArray, List.set_cons_zero, List.set_cons_succ, List.getElem_toArray, List.getElem_cons_succ, List.getElem_cons_zero])
        refine wpAnyJ_take (i := 15) (v := ?v15_28) rfl (by kernel_rfl) (by kernel_rfl) (by kernel_rfl) (by kernel_rfl) (fun _ _ _ h => h) (Or.inl (And.intro (by kernel_rfl) ?q15_28)) hS0 ?r15_28; (case q15_28 => (intro w hx; (try dsimp only); (try go_simp); (try with_reducible rfl)))
        (try simp only [Act.put, List.setIfInBounds_toArray, List.set_cons_zero, List.set_cons_succ, List.getElem_toArray, List.getElem_cons_succ, List.getElem_cons_zero])
        refine wpAnyJ_take (i := 16) (v := ?v16_29) rfl (by kernel_rfl) (by kernel_rfl) (by kernel_rfl) (by kernel_rfl) (fun _ _ _ h => h) (Or.inl (And.intro (by kernel_rfl) ?q16_29)) hS0 ?r16_29; (case q16_29 => (intro w hx; (try dsimp only); (try go_simp); (try with_reducible rfl)))
        (try simp only [Act.put, List.setIfInBounds_toArray, List.set_cons_zero, List.set_cons_succ, List.getElem_toArray, List.getElem_cons_succ, List.getElem_cons_zero])
        refine wpAnyJ_take (i := 17) (v := ?v17_30) rfl (by kernel_rfl) (by kernel_rfl) (by kernel_rfl) (by kernel_rfl) (fun _ _ _ h => h) (Or.inl (And.intro (by kernel_rfl) ?q17_30)) hS0 ?r17_30; (case q17_30 => (intro w hx; (try dsimp only); (try go_simp); (try with_reducible rfl)))
        (try simp only [Act.put, List.setIfInBounds_toArray, List.set_cons_zero, List.set_cons_succ, List.getElem_toArray, List.getElem_cons_succ, List.getElem_cons_zero])
        refine wpAnyJ_take (i := 18) (v := ?v18_31) rfl (by kernel_rfl) (by kernel_rfl) (by kernel_rfl) (by kernel_rfl) (fun _ _ _ h => h) (Or.inl (And.intro (by kernel_rfl) ?q18_31)) hS0 ?r18_31; (case q18_31 => (intro w hx; (try dsimp only); (try go_simp); (try with_reducible rfl)))
        (try simp only [Act.put, List.setIfInBounds_toArray, List.set_cons_zero, List.set_cons_succ, List.getElem_toArray, List.getElem_cons_succ, List.getElem_cons_zero])
        refine wpAnyJ_take (i := 19) (v := ?v19_32) rfl (by kernel_rfl) (by kernel_rfl) (by kernel_rfl) (by kernel_rfl) (fun _ _ _ h => h) (Or.inl (And.intro (by kernel_rfl) ?q19_32)) hS0 ?r19_32; (case q19_32 => (intro w hx; (try dsimp only); (try go_simp); (try with_reducible rfl)))
        (try simp only [Act.put, List.setIfInBounds_toArray, List.set_cons_zero, List.set_cons_succ, List.getElem_toArray, List.getElem_cons_succ, List.getElem_cons_zero])
        refine wpAnyJ_take (i := 20) (v := ?v20_33) rfl (by kernel_rfl) (by kernel_rfl) (by kernel_rfl) (by kernel_rfl) (fun _ _ _ h => h) (Or.inl (And.intro (by kernel_rfl) ?q20_33)) hS0 ?r20_33; (case q20_33 => (intro w hx; (try dsimp only); (try go_simp); (try with_reducible rfl)))
        (try simp only [Act.put, List.setIfInBounds_toArray, List.set_cons_zero, List.set_cons_succ, List.getElem_toArray, List.getElem_cons_succ, List.getElem_cons_zero])
        refine wpAnyJ_take (i := 21) (v := ?v21_34) rfl (by kernel_rfl) (by kernel_rfl) (by kernel_rfl) (by kernel_rfl) (fun _ _ _ h => h) (Or.inl (And.intro (by kernel_rfl) ?q21_34)) hS0 ?r21_34; (case q21_34 => (intro w hx; (try dsimp only); (try go_simp); (try with_reducible rfl)))
        (try simp only [Act.put, List.setIfInBounds_toArray, List.set_cons_zero, List.set_cons_succ, List.getElem_toArray, List.getElem_cons_succ, List.getElem_cons_zero])
        refine wpAnyJ_take (i := 22) (v := ?v22_35) rfl (by kernel_rfl) (by kernel_rfl) (by kernel_rfl) (by kernel_rfl) (fun _ _ _ h => h) (Or.inl (And.intro (by kernel_rfl) ?q22_35)) hS0 ?r22_35; (case q22_35 => (intro w hx; (try dsimp only); (try go_simp); (try with_reducible rfl)))
        (try simp only [Act.put, List.setIfInBounds_toArray, List.set_cons_zero, List.set_cons_succ, List.getElem_toArray, List.getElem_cons_succ, List.getElem_cons_zero])
        refine wpAnyJ_take (i := 23) (v := ?v23_36) rfl (by kernel_rfl) (by kernel_rfl) (by kernel_rfl) (by kernel_rfl) (fun _ _ _ h => h) (Or.inl (And.intro (by kernel_rfl) ?q23_36)) hS0 ?r23_36; (case q23_36 => (intro w hx; (try dsimp only); (try go_simp); (try with_reducible rfl)))
        (try simp only [Act.put, List.setIfInBounds_toArray, List.set_cons_zero, List.set_cons_succ, List.getElem_toArray, List.getElem_cons_succ, List.getElem_cons_zero])
        refine wpAnyJ_take (i := 24) (v := ?v24_37) rfl (by kernel_rfl) (by kernel_rfl) (by kernel_rfl) (by kernel_rfl) (fun _ _ _ h => h) (Or.inl (And.intro (by kernel_rfl) ?q24_37)) hS0 ?r24_37; (case q24_37 => (intro w hx; (try dsimp only); (try go_simp); (try with_reducible rfl)))
        (try simp only [Act.put, List.setIfInBounds_toArray, List.set_cons_zero, List.set_cons_succ, List.getElem_toArray, List.getElem_cons_succ, List.getElem_cons_zero])
        refine wpAnyJ_take (i := 25) (v := ?v25_38) rfl (by kernel_rfl) (by kernel_rfl) (by kernel_rfl) (by kernel_rfl) (fun _ _ _ h => h) (Or.inl (And.intro (by kernel_rfl) ?q25_38)) hS0 ?r25_38; (case q25_38 => (intro w hx; (try dsimp only); (try go_simp); (try with_reducible rfl)))
        (try simp only [Act.put, List.setIfInBounds_toArray, List.set_cons_zero, List.set_cons_succ, List.getElem_toArray, List.getElem_cons_succ, List.getElem_cons_zero])
        refine wpAnyJ_take (i := 26) (v := ?v26_39) rfl (by kernel_rfl) (by kernel_rfl) (by kernel_rfl) (by kernel_rfl) (fun _ _ _ h => h) (Or.inl (And.intro (by kernel_rfl) ?q26_39)) hS0 ?r26_39; (case q26_39 => (intro w hx; (try dsimp only); (try go_simp); (try with_reducible rfl)))
        (try simp only [Act.put, List.setIfInBounds_toArray, List.set_cons_zero, List.set_cons_succ, List.getElem_toArray, List.getElem_cons_succ, List.getElem_cons_zero])
        refine wpAnyJ_take (i := 27) (v := ?v27_40) rfl (by kernel_rfl) (by kernel_rfl) (by kernel_rfl) (by kernel_rfl) (fun _ _ _ h => h) (Or.inl (And.intro (by kernel_rfl) ?q27_40)) hS0 ?r27_40; (case q27_40 => (intro w hx; (try dsimp only); (try go_simp); (try with_reducible rfl)))
        (try simp only [Act.put, List.setIfInBounds_toArray, List.set_cons_zero, List.set_cons_succ, List.getElem_toArray, List.getElem_cons_succ, List.getElem_cons_zero])
        refine wpAnyJ_take (i := 28) (v := ?v28_41) rfl (by kernel_rfl) (by kernel_rfl) (by kernel_rfl) (by kernel_rfl) (fun _ _ _ h => h) (Or.inl (And.intro (by kernel_rfl) ?q28_41)) hS0 ?r28_41; (case q28_41 => (intro w hx; (try dsimp only); (try go_simp); (try with_reducible rfl)))
        (try simp only [Act.put, List.setIfInBounds_toArray, List.set_cons_zero, List.set_cons_succ, List.getElem_toArray, List.getElem_cons_succ, List.getElem_cons_zero])
        refine wpAnyJ_take (i := 29) (v := ?v29_42) rfl (by kernel_rfl) (by kernel_rfl) (by kernel_rfl) (by kernel_rfl) (fun _ _ _ h => h) (Or.inl (And.intro (by kernel_rfl) ?q29_42)) hS0 ?r29_42; (case q29_42 => (intro w hx; (try dsimp only); (try go_simp); (try with_reducible rfl)))
        (try simp only [Act.put, List.setIfInBounds_toArray, List.set_cons_zero, List.set_cons_succ, List.getElem_toArray, List.getElem_cons_succ, List.getElem_cons_zero])
        refine wpAnyJ_take (i := 30) (v := ?v30_43) rfl (by kernel_rfl) (by kernel_rfl) (by kernel_rfl) (by kernel_rfl) (fun _ _ _ h => h) (Or.inl (And.intro (by kernel_rfl) ?q30_43)) hS0 ?r30_43; (case q30_43 => (intro w hx; (try dsimp only); (try go_simp); (try with_reducible rfl)))
        (try simp only [Act.put, List.setIfInBounds_toArray, List.set_cons_zero, List.set_cons_succ, List.getElem_toArray, List.getElem_cons_succ, List.getElem_cons_zero])
        refine wpAnyJ_take (i := 31) (v := ?v31_44) rfl (by kernel_rfl) (by kernel_rfl) (by kernel_rfl) (by kernel_rfl) (fun _ _ _ h => h) (Or.inl (And.intro (by kernel_rfl) ?q31_44)) hS0 ?r31_44; (case q31_44 => (intro w hx; (try dsimp only); (try go_simp); (try with_reducible rfl)))
        (try simp only [Act.put, List.setIfInBounds_toArray, List.set_cons_zero, List.set_cons_succ, List.getElem_toArray, List.getElem_cons_succ, List.getElem_cons_zero])
        refine wpAnyJ_take (i := 33) (v := ?v33_45) rfl (by kernel_rfl) (by kernel_rfl) (by kernel_rfl) (by kernel_rfl) (fun _ _ _ h => h) (Or.inl (And.intro (by kernel_rfl) ?q33_45)) hS0 ?r33_45; (case q33_45 => (intro w hx; (try dsimp only); (try go_simp); (try with_reducible rfl)))
        (try simp only [Act.put, List.setIfInBounds_toArray, List.set_cons_zero, List.set_cons_succ, List.getElem_toArray, List.getElem_cons_succ, List.getElem_cons_zero])
        refine wpAnyJ_take (i := 34) (v := ?v34_46) rfl (by kernel_rfl) (by kernel_rfl) (by kernel_rfl) (by kernel_rfl) (fun _ _ _ h => h) (Or.inl (And.intro (by kernel_rfl) ?q34_46)) hS0 ?r34_46; (case q34_46 => (intro w hx; (try dsimp only); (try go_simp); (try with_reducible rfl)))
        (try simp only [Act.put, List.setIfInBounds_toArray, List.set_cons_zero, List.set_cons_succ, List.getElem_toArray, List.getElem_cons_succ, List.getElem_cons_zero])
        refine wpAnyJ_take (i := 35) (v := ?v35_47) rfl (by kernel_rfl) (by kernel_rfl) (by kernel_rfl) (by kernel_rfl) (fun _ _ _ h => h) (Or.inl (And.intro (by kernel_rfl) ?q35_47)) hS0 ?r35_47; (case q35_47 => (intro w hx; (try dsimp only); (try go_simp); (try with_reducible rfl)))
        (try simp only [Act.put, List.setIfInBounds_toArray, List.set_cons_zero, List.set_cons_succ, List.getElem_toArray, List.getElem_cons_succ, List.getElem_cons_zero])
        refine wpAnyJ_ready (rs := [32]) (by kernel_rfl) (by simp) ?_
        refine (AllReadyJ.cons rfl (fun K hK => ?_) AllReadyJ.nil)
        rw [if_pos (by kernel_rfl)]
        (try simp only [List.getElem_toArray, List.getElem_cons_succ, List.getElem_cons_zero])
        (focus go_simp)
        (focus ((with_reducible refine (CU1.out _ hS0).mono ?_); rintro e wq ⟨rfl, bq⟩))
        (focus (try go_wp2_with fail))
        refine hK.out _ _ ?hs (fun hS0 => ?_)
        case hs => (first | with_reducible exact hS0 | exact bstep hS0 bq)
        clear hK K
        (try simp only [Act.put, List.setIfInBounds_toArray, List.set_cons_zero, List.set_cons_succ, List.getElem_toArray, List.getElem_cons_succ, List.getElem_cons_zero])
        refine wpAnyJ_ready (rs := [36]) (by kernel_rfl) (by simp) ?_
        refine (AllReadyJ.cons rfl (fun K hK => ?_) AllReadyJ.nil)
        rw [if_pos (by kernel_rfl)]
        (try simp only [List.getElem_toArray, List.getElem_cons_succ, List.getElem_cons_zero])
        (focus go_simp)
        (focus ((with_reducible refine (CU2.out _ hS0).mono ?_); rintro e wq ⟨rfl, bq⟩))
        (focus (try go_wp2_with fail))
        refine hK.out _ _ ?hs (fun hS0 => ?_)
        case hs => (first | with_reducible exact hS0 | exact bstep hS0 bq)
        clear hK K
        (try simp only [Act.put, List.setIfInBounds_toArray, List.set_cons_zero, List.set_cons_succ, List.getElem_toArray, List.getElem_cons_succ, List.getElem_cons_zero])
        refine wpAnyJ_take (i := 37) (v := ?v37_48) rfl (by kernel_rfl) (by kernel_rfl) (by kernel_rfl) (by kernel_rfl) (fun _ _ _ h => h) (Or.inl (And.intro (by kernel_rfl) ?q37_48)) hS0 ?r37_48; (case q37_48 => (intro w hx; (try dsimp only); (try go_simp); (try with_reducible rfl)))
        (try simp only [Act.put, List.setIfInBounds_toArray, List.set_cons_zero, List.set_cons_succ, List.getElem_toArray, List.getElem_cons_succ, List.getElem_cons_zero])
        refine wpAnyJ_take (i := 38) (v := ?v38_49) rfl (by kernel_rfl) (by kernel_rfl) (by kernel_rfl) (by kernel_rfl) (fun _ _ _ h => h) (Or.inl (And.intro (by kernel_rfl) ?q38_49)) hS0 ?r38_49; (case q38_49 => (intro w hx; (try dsimp only); (try go_simp); (try with_reducible rfl)))
        (try simp only [Act.put, List.setIfInBounds_toArray, List.set_cons_zero, List.set_cons_succ, List.getElem_toArray, List.getElem_cons_succ, List.getElem_cons_zero])
        refine wpAnyJ_take (i := 39) (v := ?v39_50) rfl (by kernel_rfl) (by kernel_rfl) (by kernel_rfl) (by kernel_rfl) (fun _ _ _ h => h) (Or.inl (And.intro (by kernel_rfl) ?q39_50)) hS0 ?r39_50; (case q39_50 => (intro w hx; (try dsimp only); (try go_simp); (try with_reducible rfl)))
        (try simp only [Act.put, List.setIfInBounds_toArray, List.set_cons_zero, List.set_cons_succ, List.getElem_toArray, List.getElem_cons_succ, List.getElem_cons_zero])
        refine wpAnyJ_take (i := 40) (v := ?v40_51) rfl (by kernel_rfl) (by kernel_rfl) (by kernel_rfl) (by kernel_rfl) (fun _ _ _ h => h) (Or.inl (And.intro (by kernel_rfl) ?q40_51)) hS0 ?r40_51; (case q40_51 => (intro w hx; (try dsimp only); (try go_simp); (try with_reducible rfl)))
        (try simp only [Act.put, List.setIfInBounds_toArray, List.set_cons_zero, List.set_cons_succ, List.getElem_toArray, List.getElem_cons_succ, List.getElem_cons_zero])
        refine wpAnyJ_take (i := 41) (v := ?v41_52) rfl (by kernel_rfl) (by kernel_rfl) (by kernel_rfl) (by kernel_rfl) (fun _ _ _ h => h) (Or.inl (And.intro (by kernel_rfl) ?q41_52)) hS0 ?r41_52; (case q41_52 => (intro w hx; (try dsimp only); (try go_simp); (try with_reducible rfl)))
        (try simp only [Act.put, List.setIfInBounds_toArray, List.set_cons_zero, List.set_cons_succ, List.getElem_toArray, List.getElem_cons_succ, List.getElem_cons_zero])
        refine wpAnyJ_take (i := 42) (v := ?v42_53) rfl (by kernel_rfl) (by kernel_rfl) (by kernel_rfl) (by kernel_rfl) (fun _ _ _ h => h) (Or.inl (And.intro (by kernel_rfl) ?q42_53)) hS0 ?r42_53; (case q42_53 => (intro w hx; (try dsimp only); (try go_simp); (try with_reducible rfl)))
        (try simp only [Act.put, List.setIfInBounds_toArray, List.set_cons_zero, List.set_cons_succ, List.getElem_toArray, List.getElem_cons_succ, List.getElem_cons_zero])
        refine wpAnyJ_take (i := 43) (v := ?v43_54) rfl (by kernel_rfl) (by kernel_rfl) (by kernel_rfl) (by kernel_rfl) (fun _ _ _ h => h) (Or.inl (And.intro (by kernel_rfl) ?q43_54)) hS0 ?r43_54; (case q43_54 => (intro w hx; (try dsimp only); (try go_simp); (try with_reducible rfl)))
        (try simp only [Act.put, List.setIfInBounds_toArray, List.set_cons_zero, List.set_cons_succ, List.getElem_toArray, List.getElem_cons_succ, List.getElem_cons_zero])
        refine wpAnyJ_take (i := 45) (v := ?v45_55) rfl (by kernel_rfl) (by kernel_rfl) (by kernel_rfl) (by kernel_rfl) (fun _ _ _ h => h) (Or.inl (And.intro (by kernel_rfl) ?q45_55)) hS0 ?r45_55; (case q45_55 => (intro w hx; (try dsimp only); (try go_simp); (try with_reducible rfl)))
        (try simp only [Act.put, List.setIfInBounds_toArray, List.set_cons_zero, List.set_cons_succ, List.getElem_toArray, List.getElem_cons_succ, List.getElem_cons_zero])
        refine wpAnyJ_take (i := 46) (v := ?v46_56) rfl (by kernel_rfl) (by kernel_rfl) (by kernel_rfl) (by kernel_rfl) (fun _ _ _ h => h) (Or.inl (And.intro (by kernel_rfl) ?q46_56)) hS0 ?r46_56; (case q46_56 => (intro w hx; (try dsimp only); (try go_simp); (try with_reducible rfl)))
        (try simp only [Act.put, List.setIfInBounds_toArray, List.set_cons_zero, List.set_cons_succ, List.getElem_toArray, List.getElem_cons_succ, List.getElem_cons_zero])
        refine wpAnyJ_take (i := 47) (v := ?v47_57) rfl (by kernel_rfl) (by kernel_rfl) (by kernel_rfl) (by kernel_rfl) (fun _ _ _ h => h) (Or.inl (And.intro (by kernel_rfl) ?q47_57)) hS0 ?r47_57; (case q47_57 => (intro w hx; (try dsimp only); (try go_simp); (try with_reducible rfl)))
        (try simp only [Act.put, List.setIfInBounds_toArray, List.set_cons_zero, List.set_cons_succ, List.getElem_toArray, List.getElem_cons_succ, List.getElem_cons_zero])
        refine wpAnyJ_take (i := 48) (v := ?v48_58) rfl (by kernel_rfl) (by kernel_rfl) (by kernel_rfl) (by kernel_rfl) (fun _ _ _ h => h) (Or.inl (And.intro (by kernel_rfl) ?q48_58)) hS0 ?r48_58; (case q48_58 => (intro w hx; (try dsimp only); (try go_simp); (try with_reducible rfl)))
        (try simp only [Act.put, List.setIfInBounds_toArray, List.set_cons_zero, List.set_cons_succ, List.getElem_toArray, List.getElem_cons_succ, List.getElem_cons_zero])
        refine wpAnyJ_ready (rs := [44]) (by kernel_rfl) (by simp) ?_
        refine (AllReadyJ.cons rfl (fun K hK => ?_) AllReadyJ.nil)
        rw [if_pos (by kernel_rfl)]
        (try simp only [List.getElem_toArray, List.getElem_cons_succ, List.getElem_cons_zero])
        (focus go_simp)
        (focus ((with_reducible refine (CI1.out _ hS0).mono ?_); rintro e wq ⟨rfl, bq⟩))
        (focus (try go_wp2_with fail))
        refine hK.out _ _ ?hs (fun hS0 => ?_)
        case hs => (first | with_reducible exact hS0 | exact bstep hS0 bq)
        clear hK K
        (try simp only [Act.put, List.setIfInBounds_toArray, List.set_cons_zero, List.set_cons_succ, List.getElem_toArray, List.getElem_cons_succ, List.getElem_cons_zero])
        refine wpAnyJ_ready (rs := [49]) (by kernel_rfl) (by simp) ?_
        refine (AllReadyJ.cons rfl (fun K hK => ?_) AllReadyJ.nil)
        rw [if_pos (by kernel_rfl)]
        (try simp only [List.getElem_toArray, List.getElem_cons_succ, List.getElem_cons_zero])
        (focus go_simp)
        (focus ((with_reducible refine (CI2.out _ hS0).mono ?_); rintro e wq ⟨rfl, bq⟩))
        (focus (try go_wp2_with fail))
        refine hK.out _ _ ?hs (fun hS0 => ?_)
        case hs => (first | with_reducible exact hS0 | exact bstep hS0 bq)
        clear hK K
        (try simp only [Act.put, List.setIfInBounds_toArray, List.set_cons_zero, List.set_cons_succ, List.getElem_toArray, List.getElem_cons_succ, List.getElem_cons_zero])
        refine wpAnyJ_take (i := 50) (v := ?v50_59) rfl (by kernel_rfl) (by kernel_rfl) (by kernel_rfl) (by kernel_rfl) (fun _ _ _ h => h) (Or.inl (And.intro (by kernel_rfl) ?q50_59)) hS0 ?r50_59; (case q50_59 => (intro w hx; (try dsimp only); (try go_simp); (try with_reducible rfl)))
        (try simp only [Act.put, List.setIfInBounds_toArray, List.set_cons_zero, List.set_cons_succ, List.getElem_toArray, List.getElem_cons_succ, List.getElem_cons_zero])
        refine wpAnyJ_take (i := 51) (v := ?v51_60) rfl (by kernel_rfl) (by kernel_rfl) (by kernel_rfl) (by kernel_rfl) (fun _ _ _ h => h) (Or.inl (And.intro (by kernel_rfl) ?q51_60)) hS0 ?r51_60; (case q51_60 => (intro w hx; (try dsimp only); (try go_simp); (try with_reducible rfl)))
        (try simp only [Act.put, List.setIfInBounds_toArray, List.set_cons_zero, List.set_cons_succ, List.getElem_toArray, List.getElem_cons_succ, List.getElem_cons_zero])
        refine wpAnyJ_take (i := 52) (v := ?v52_61) rfl (by kernel_rfl) (by kernel_rfl) (by kernel_rfl) (by kernel_rfl) (fun _ _ _ h => h) (Or.inl (And.intro (by kernel_rfl) ?q52_61)) hS0 ?r52_61; (case q52_61 => (intro w hx; (try dsimp only); (try go_simp); (try with_reducible rfl)))
        (try simp only [Act.put, List.setIfInBounds_toArray, List.set_cons_zero, List.set_cons_succ, List.getElem_toArray, List.getElem_cons_succ, List.getElem_cons_zero])
        refine wpAnyJ_take (i := 53) (v := ?v53_62) rfl (by kernel_rfl) (by kernel_rfl) (by kernel_rfl) (by kernel_rfl) (fun _ _ _ h => h) (Or.inl (And.intro (by kernel_rfl) ?q53_62)) hS0 ?r53_62; (case q53_62 => (intro w hx; (try dsimp only); (try go_simp); (try with_reducible rfl)))
        (try simp only [Act.put, List.setIfInBounds_toArray, List.set_cons_zero, List.set_cons_succ, List.getElem_toArray, List.getElem_cons_succ, List.getElem_cons_zero])
        refine wpAnyJ_take (i := 54) (v := ?v54_63) rfl (by kernel_rfl) (by kernel_rfl) (by kernel_rfl) (by kernel_rfl) (fun _ _ _ h => h) (Or.inl (And.intro (by kernel_rfl) ?q54_63)) hS0 ?r54_63; (case q54_63 => (intro w hx; (try dsimp only); (try go_simp); (try with_reducible rfl)))
        (try simp only [Act.put, List.setIfInBounds_toArray, List.set_cons_zero, List.set_cons_succ, List.getElem_toArray, List.getElem_cons_succ, List.getElem_cons_zero])
        refine wpAnyJ_take (i := 55) (v := ?v55_64) rfl (by kernel_rfl) (by kernel_rfl) (by kernel_rfl) (by kernel_rfl) (fun _ _ _ h => h) (Or.inl (And.intro (by kernel_rfl) ?q55_64)) hS0 ?r55_64; (case q55_64 => (intro w hx; (try dsimp only); (try go_simp); (try with_reducible rfl)))
        (try simp only [Act.put, List.setIfInBounds_toArray, List.set_cons_zero, List.set_cons_succ, List.getElem_toArray, List.getElem_cons_succ, List.getElem_cons_zero])
        refine wpAnyJ_take (i := 57) (v := ?v57_65) rfl (by kernel_rfl) (by kernel_rfl) (by kernel_rfl) (by kernel_rfl) (fun _ _ _ h => h) (Or.inl (And.intro (by kernel_rfl) ?q57_65)) hS0 ?r57_65; (case q57_65 => (intro w hx; (try dsimp only); (try go_simp); (try with_reducible rfl)))
        (try simp only [Act.put, List.setIfInBounds_toArray, List.set_cons_zero, List.set_cons_succ, List.getElem_toArray, List.getElem_cons_succ, List.getElem_cons_zero])
        refine wpAnyJ_take (i := 58) (v := ?v58_66) rfl (by kernel_rfl) (by kernel_rfl) (by kernel_rfl) (by kernel_rfl) (fun _ _ _ h => h) (Or.inl (And.intro (by kernel_rfl) ?q58_66)) hS0 ?r58_66; (case q58_66 => (intro w hx; (try dsimp only); (try go_simp); (try with_reducible rfl)))
        (try simp only [Act.put, List.setIfInBounds_toArray, List.set_cons_zero, List.set_cons_succ, List.getElem_toArray, List.getElem_cons_succ, List.getElem_cons_zero])
        refine wpAnyJ_take (i := 59) (v := ?v59_67) rfl (by kernel_rfl) (by kernel_rfl) (by kernel_rfl) (by kernel_rfl) (fun _ _ _ h => h) (Or.inl (And.intro (by kernel_rfl) ?q59_67)) hS0 ?r59_67; (case q59_67 => (intro w hx; (try dsimp only); (try go_simp); (try with_reducible rfl)))
        (try simp only [Act.put, List.setIfInBounds_toArray, List.set_cons_zero, List.set_cons_succ, List.getElem_toArray, List.getElem_cons_succ, List.getElem_cons_zero])
        refine wpAnyJ_ready (rs := [56]) (by kernel_rfl) (by simp) ?_
        refine (AllReadyJ.cons rfl (fun K hK => ?_) AllReadyJ.nil)
        rw [if_pos (by kernel_rfl)]
        (try simp only [List.getElem_toArray, List.getElem_cons_succ, List.getElem_cons_zero])
        (focus go_simp)
        (focus ((with_reducible refine (CJ1.out _ hS0).mono ?_); rintro e wq ⟨rfl, bq⟩))
        (focus (try go_wp2_with fail))
        refine hK.out _ _ ?hs (fun hS0 => ?_)
        case hs => (first | with_reducible exact hS0 | exact bstep hS0 bq)
        clear hK K
        (try simp only [Act.put, List.setIfInBounds_toArray, List.set_cons_zero, List.set_cons_succ, List.getElem_toArray, List.getElem_cons_succ, List.getElem_cons_zero])
        refine wpAnyJ_ready (rs := [60]) (by kernel_rfl) (by simp) ?_
        refine (AllReadyJ.cons rfl (fun K hK => ?_) AllReadyJ.nil)
        rw [if_pos (by kernel_rfl)]
        (try simp only [List.getElem_toArray, List.getElem_cons_succ, List.getElem_cons_zero])
        (focus go_simp)
        (focus ((with_reducible refine (CJ2.out _ hS0).mono ?_); rintro e wq ⟨rfl, bq⟩))
        (focus (try go_wp2_with fail))
        refine hK.out _ _ ?hs (fun hS0 => ?_)
        case hs => (first | with_reducible exact hS0 | exact bstep hS0 bq)
        clear hK K
        (try simp only [Act.put, List.setIfInBounds_toArray, List.set_cons_zero, List.set_cons_succ, List.getElem_toArray, List.getElem_cons_succ, List.getElem_cons_zero])
        refine wpAnyJ_take (i := 61) (v := ?v61_68) rfl (by kernel_rfl) (by kernel_rfl) (by kernel_rfl) (by kernel_rfl) (fun _ _ _ h => h) (Or.inl (And.intro (by kernel_rfl) ?q61_68)) hS0 ?r61_68; (case q61_68 => (intro w hx; (try dsimp only); (try go_simp); (try with_reducible rfl)))
        (try simp only [Act.put, List.setIfInBounds_toArray, List.set_cons_zero, List.set_cons_succ, List.getElem_toArray, List.getElem_cons_succ, List.getElem_cons_zero])
        refine wpAnyJ_take (i := 62) (v := ?v62_69) rfl (by kernel_rfl) (by kernel_rfl) (by kernel_rfl) (by kernel_rfl) (fun _ _ _ h => h) (Or.inl (And.intro (by kernel_rfl) ?q62_69)) hS0 ?r62_69; (case q62_69 => (intro w hx; (try dsimp only); (try go_simp); (try with_reducible rfl)))
        (try simp only [Act.put, List.setIfInBounds_toArray, List.set_cons_zero, List.set_cons_succ, List.getElem_toArray, List.getElem_cons_succ, List.getElem_cons_zero])
        refine wpAnyJ_take (i := 63) (v := ?v63_70) rfl (by kernel_rfl) (by kernel_rfl) (by kernel_rfl) (by kernel_rfl) (fun _ _ _ h => h) (Or.inl (And.intro (by kernel_rfl) ?q63_70)) hS0 ?r63_70; (case q63_70 => (intro w hx; (try dsimp only); (try go_simp); (try with_reducible rfl)))
        (try simp only [Act.put, List.setIfInBounds_toArray, List.set_cons_zero, List.set_cons_succ, List.getElem_toArray, List.getElem_cons_succ, List.getElem_cons_zero])
        refine wpAnyJ_done (by kernel_rfl) ?_ _
      have LF := hide (bstep L0.out hS0)
      go_wp2_with fail
      go_ret
      exact ⟨by first | rfl | simp, LF.out⟩
end Go.Proofs.Ytbboajhdijabbaa
