/- rules: the document's lookups (porterref11): Static, OwnRule. -/
import Derived.Test.YtbboajhdijabbaaRdoc1
import Derived.Test.YtbboajhdijabbaaRrows
set_option linter.unusedVariables false
set_option linter.unusedSimpArgs false
namespace Go.Proofs.Ytbboajhdijabbaa
open Go.RowKit Go.Lib
attribute [local go_sem] Oper.semAt_some

theorem firstR_hit {o : Int} {p : Rule → Bool} {l : List Rule} {k : Nat} (h : k < l.length) (hk : p l[k] = true) (hj : ∀ j (hj : j < k) (hl : j < l.length), p l[j] = false) : l.find? p = some l[k] ∧ l.any p = true := by
  have ha : l.any p = true := List.any_eq_true.2 ⟨l[k], List.getElem_mem h, hk⟩
  obtain ⟨h1, h2⟩ := find_idx p l ha
  have e : l.findIdx p = k := (List.findIdx_eq h).2 ⟨hk, fun j hj' => hj j hj' (by omega)⟩
  refine ⟨?_, ha⟩
  rw [h2]
  simp only [e]
theorem firstR_miss {p : Rule → Bool} {l : List Rule} (hj : ∀ j (hl : j < l.length), p l[j] = false) : l.find? p = none ∧ l.any p = false := by
  constructor
  · rw [List.find?_eq_none]
    intro x hx hpx
    obtain ⟨j, hj2, rfl⟩ := List.getElem_of_mem hx
    rw [hj j hj2] at hpx
    cases hpx
  · rw [Bool.eq_false_iff]
    intro ha
    obtain ⟨x, hx, hpx⟩ := List.any_eq_true.1 ha
    obtain ⟨j, hj2, rfl⟩ := List.getElem_of_mem hx
    rw [hj j hj2] at hpx
    cases hpx

set_option maxHeartbeats 4000000 in
set_option maxRecDepth 100000 in
theorem d_Static (w : World) (B : Nat) (o ip b : Int) (v : Value) (l : List Rule) (h : DS w B o ip b l v) (hl : l.length ≤ 1000) (p ei ep : Int) :
    Calls Try.prog 56 #[.pointer (some ⟨B, 0, none⟩), .int .u8 p, .agg #[.int .u32 ei, .int .u16 ep]] w (Ret (.tuple #[.agg (rawR (stP p ei ep) l).cells, .bool (l.any (stP p ei ep))]) w) := by
  obtain ⟨A, c, hv, hrow⟩ := h.rows
  have hB := h.tbl
  obtain ⟨r1, hr1⟩ : ∃ r1, r1 = rawR (stP p ei ep) l := ⟨_, rfl⟩
  obtain ⟨q, hq⟩ : ∃ q, q = l.any (stP p ei ep) := ⟨_, rfl⟩
  rw [← hr1, ← hq]
  obtain ⟨n, hn⟩ : ∃ n, n = l.length := ⟨_, rfl⟩
  rw [hv, ← hn] at hB
  unfold rawR at hr1
  unfold Rule.cells
  have hn63 : (n : Int) ≤ 1000 := by omega
  have HN := hide hn; have HB := hide hB; have HR := hide hrow; have HQ := hide hq; have H1 := hide hr1
  clear h hv hrow hB hq hr1 hn hl
  go_enter Try.func56, Try.ntmps56
  have d0 := Cells.new w #[.int .u32 ei, .int .u16 ep] 28
  replace d0 := Cells.below (fresh_below (w.alloc (.cells #[.int .u32 ei, .int .u16 ep] 28)) (.cells #[.int .i64 0, .int .u8 0, .int .u32 0, .int .i64 0, .int .u32 0, .int .i64 0, .int .u32 0, .int .u16 0, .int .u16 0, .int .u32 0, .int .u16 0] 30)) d0
  have d1 := Cells.new (w.alloc (.cells #[.int .u32 ei, .int .u16 ep] 28)) #[.int .i64 0, .int .u8 0, .int .u32 0, .int .i64 0, .int .u32 0, .int .i64 0, .int .u32 0, .int .u16 0, .int .u16 0, .int .u32 0, .int .u16 0] 30
  have l0 : Below w.heap.size w ((w.alloc (.cells #[.int .u32 ei, .int .u16 ep] 28)).alloc (.cells #[.int .i64 0, .int .u8 0, .int .u32 0, .int .i64 0, .int .u32 0, .int .i64 0, .int .u32 0, .int .u16 0, .int .u16 0, .int .u32 0, .int .u16 0] 30)) := bstep (fresh_below _ _) (fresh_below _ _)
  rw [World.size_alloc] at d1
  have L0 := hide l0; have D0 := hide d0; have D1 := hide d1
  clear l0 d0 d1
  go_upto_region 1 with fail
  have l0 := L0.out; have d0 := D0.out; have d1 := D1.out
  clear L0 D0 D1
  generalize ((w.alloc (.cells #[.int .u32 ei, .int .u16 ep] 28)).alloc (.cells #[.int .i64 0, .int .u8 0, .int .u32 0, .int .i64 0, .int .u32 0, .int .i64 0, .int .u32 0, .int .u16 0, .int .u16 0, .int .u32 0, .int .u16 0] 30)) = w1 at *
  have D0 := hide d0; have D1 := hide d1; have L0 := hide l0; have E0 := hide (Cells.below l0 HB.out)
  clear d0 d1 l0
  go_wp2_with fail
  go_loopg [8, 9] n (fun gg si _ wr => ∃ kk : Nat, kk ≤ n ∧ n - kk ≤ gg ∧ si = .int .i64 kk ∧ Aside (Below w1.heap.size w1 wr) ∧ Aside (∀ j (hj : j < kk) (hl : j < l.length), (stP p ei ep) l[j] = false))
  case atStart => exact ⟨0, Nat.zero_le _, by omega, rfl, Below.refl _ w1, fun j hj => absurd hj (Nat.not_lt_zero _)⟩
  case round =>
    obtain ⟨kk, hkk, hg, rfl, BW, AA⟩ := hrel
    have e0 := Cells.below BW.out D0.out; have e1 := Cells.below BW.out D1.out; have eB := Cells.below BW.out E0.out
    have qe0_0 : ∀ W', Below wr.heap.size wr W' → World.cell? W' ⟨w.heap.size, 0, none⟩ = some (.int .u32 ei) := fun W' h => Cells.at_ (Cells.below h e0) 0
    have qe0_1 : ∀ W', Below wr.heap.size wr W' → World.cell? W' ⟨w.heap.size, 1, none⟩ = some (.int .u16 ep) := fun W' h => Cells.at_ (Cells.below h e0) 1
    have qe1_0 : ∀ W', Below wr.heap.size wr W' → World.cell? W' ⟨w.heap.size + 1, 0, none⟩ = some (.int .i64 0) := fun W' h => Cells.at_ (Cells.below h e1) 0
    have qe1_1 : ∀ W', Below wr.heap.size wr W' → World.cell? W' ⟨w.heap.size + 1, 1, none⟩ = some (.int .u8 0) := fun W' h => Cells.at_ (Cells.below h e1) 1
    have qe1_2 : ∀ W', Below wr.heap.size wr W' → World.cell? W' ⟨w.heap.size + 1, 2, none⟩ = some (.int .u32 0) := fun W' h => Cells.at_ (Cells.below h e1) 2
    have qe1_3 : ∀ W', Below wr.heap.size wr W' → World.cell? W' ⟨w.heap.size + 1, 3, none⟩ = some (.int .i64 0) := fun W' h => Cells.at_ (Cells.below h e1) 3
    have qe1_4 : ∀ W', Below wr.heap.size wr W' → World.cell? W' ⟨w.heap.size + 1, 4, none⟩ = some (.int .u32 0) := fun W' h => Cells.at_ (Cells.below h e1) 4
    have qe1_5 : ∀ W', Below wr.heap.size wr W' → World.cell? W' ⟨w.heap.size + 1, 5, none⟩ = some (.int .i64 0) := fun W' h => Cells.at_ (Cells.below h e1) 5
    have qe1_6 : ∀ W', Below wr.heap.size wr W' → World.cell? W' ⟨w.heap.size + 1, 6, none⟩ = some (.int .u32 0) := fun W' h => Cells.at_ (Cells.below h e1) 6
    have qe1_7 : ∀ W', Below wr.heap.size wr W' → World.cell? W' ⟨w.heap.size + 1, 7, none⟩ = some (.int .u16 0) := fun W' h => Cells.at_ (Cells.below h e1) 7
    have qe1_8 : ∀ W', Below wr.heap.size wr W' → World.cell? W' ⟨w.heap.size + 1, 8, none⟩ = some (.int .u16 0) := fun W' h => Cells.at_ (Cells.below h e1) 8
    have qe1_9 : ∀ W', Below wr.heap.size wr W' → World.cell? W' ⟨w.heap.size + 1, 9, none⟩ = some (.int .u32 0) := fun W' h => Cells.at_ (Cells.below h e1) 9
    have qe1_10 : ∀ W', Below wr.heap.size wr W' → World.cell? W' ⟨w.heap.size + 1, 10, none⟩ = some (.int .u16 0) := fun W' h => Cells.at_ (Cells.below h e1) 10
    have qeB_0 : ∀ W', Below wr.heap.size wr W' → World.cell? W' ⟨B, 0, none⟩ = some (.int .u32 o) := fun W' h => Cells.at_ (Cells.below h eB) 0
    have qeB_1 : ∀ W', Below wr.heap.size wr W' → World.cell? W' ⟨B, 1, none⟩ = some (.int .u32 ip) := fun W' h => Cells.at_ (Cells.below h eB) 1
    have qeB_2 : ∀ W', Below wr.heap.size wr W' → World.cell? W' ⟨B, 2, none⟩ = some (.int .i64 b) := fun W' h => Cells.at_ (Cells.below h eB) 2
    have qeB_3 : ∀ W', Below wr.heap.size wr W' → World.cell? W' ⟨B, 3, none⟩ = some (.slice A n c) := fun W' h => Cells.at_ (Cells.below h eB) 3
    have fz : ∀ W' i, Below wr.heap.size wr W' → World.frozen? W' ⟨w.heap.size + 1, i, none⟩ = false := fun W' i h => Cells.free (Cells.below h e1) i
    have bb : Below wr.heap.size wr wr := Below.refl _ _
    have bA : ∀ W o, Below wr.heap.size wr W → Below wr.heap.size wr (W.alloc o) := fun W o h => bstep h (fresh_below W o)
    have D1' := hide e1
    clear e0 e1 eB
    by_cases hlt : kk < n
    · have hltz : (kk : Int) < (n : Int) := by omega
      have hl : kk < l.length := by have := HN.out; omega
      obtain ⟨g, rfl, hg0, hrow⟩ := HR.out (by omega)
      have hcell : ∀ i u, i < 11 → (l[kk]).cells.toList[i]? = some u → ∀ W', Below wr.heap.size wr W' → World.cell? W' ⟨g, kk * 11 + i, none⟩ = some u := fun i u hi hu W' hW => by
        rw [(bstep (bstep L0.out BW.out) hW).cell (p := ⟨g, kk * 11 + i, none⟩) hg0]
        exact hrow kk hl i u hi hu
      obtain ⟨r, hr⟩ : ∃ r, r = l[kk] := ⟨_, rfl⟩
      rw [← hr] at hcell
      have z0 : ∀ W', Below wr.heap.size wr W' → World.cell? W' ⟨g, kk * 11, none⟩ = some (.int .i64 r.k) := hcell 0 _ (by omega) rfl
      have z1 : ∀ W', Below wr.heap.size wr W' → World.cell? W' ⟨g, kk * 11 + 1, none⟩ = some (.int .u8 r.p) := hcell 1 _ (by omega) rfl
      have z2 : ∀ W', Below wr.heap.size wr W' → World.cell? W' ⟨g, kk * 11 + 2, none⟩ = some (.int .u32 r.sa) := hcell 2 _ (by omega) rfl
      have z3 : ∀ W', Below wr.heap.size wr W' → World.cell? W' ⟨g, kk * 11 + 3, none⟩ = some (.int .i64 r.sb) := hcell 3 _ (by omega) rfl
      have z4 : ∀ W', Below wr.heap.size wr W' → World.cell? W' ⟨g, kk * 11 + 4, none⟩ = some (.int .u32 r.da) := hcell 4 _ (by omega) rfl
      have z5 : ∀ W', Below wr.heap.size wr W' → World.cell? W' ⟨g, kk * 11 + 5, none⟩ = some (.int .i64 r.db) := hcell 5 _ (by omega) rfl
      have z6 : ∀ W', Below wr.heap.size wr W' → World.cell? W' ⟨g, kk * 11 + 6, none⟩ = some (.int .u32 r.e) := hcell 6 _ (by omega) rfl
      have z7 : ∀ W', Below wr.heap.size wr W' → World.cell? W' ⟨g, kk * 11 + 7, none⟩ = some (.int .u16 r.f) := hcell 7 _ (by omega) rfl
      have z8 : ∀ W', Below wr.heap.size wr W' → World.cell? W' ⟨g, kk * 11 + 8, none⟩ = some (.int .u16 r.t) := hcell 8 _ (by omega) rfl
      have z9 : ∀ W', Below wr.heap.size wr W' → World.cell? W' ⟨g, kk * 11 + 9, none⟩ = some (.int .u32 r.ia) := hcell 9 _ (by omega) rfl
      have z10 : ∀ W', Below wr.heap.size wr W' → World.cell? W' ⟨g, kk * 11 + 10, none⟩ = some (.int .u16 r.ip) := hcell 10 _ (by omega) rfl
      obtain ⟨z, hz⟩ : ∃ z, z = (stP p ei ep) r := ⟨_, rfl⟩
      have HZ := hide hz; have HC := hide hr; have BW' := hide BW; have A' := hide AA
      clear hcell hr hrow hg0 BW AA hz
      cases z with
      | true =>
        have hz := HZ.out
        simp only [stP, Bool.and_eq_true, decide_eq_true_eq, Bool.true_eq] at hz
        have y0 : (r.k == 3) = true := by simp [hz]
        have y1 : (r.p == p) = true := by simp [hz]
        have y2 : (r.e == ei) = true := by simp [hz]
        have y3 : (r.f == ep) = true := by simp [hz]
        clear hz
        go_wp2_with fail
        have d2 := Cells.alloc D1'.out (.cells #[.int .i64 r.k, .int .u8 r.p, .int .u32 r.sa, .int .i64 r.sb, .int .u32 r.da, .int .i64 r.db, .int .u32 r.e, .int .u16 r.f, .int .u16 r.t, .int .u32 r.ia, .int .u16 r.ip] 30); have l2 := bstep (bstep L0.out BW'.out.out) (fresh_below wr (.cells #[.int .i64 r.k, .int .u8 r.p, .int .u32 r.sa, .int .i64 r.sb, .int .u32 r.da, .int .i64 r.db, .int .u32 r.e, .int .u16 r.f, .int .u16 r.t, .int .u32 r.ia, .int .u16 r.ip] 30))
        have hres : r1 = r ∧ q = true := by
          have hh := firstR_hit (o := o) (p := stP p ei ep) hl (by rw [← HC.out]; exact HZ.out.symm) (fun j hj hl => A'.out.out j hj hl)
          rw [H1.out, HQ.out, hh.1, hh.2]
          exact ⟨HC.out.symm, rfl⟩
        have HE := hide hres
        clear hres qe0_0 qe0_1 qe1_0 qe1_1 qe1_2 qe1_3 qe1_4 qe1_5 qe1_6 qe1_7 qe1_8 qe1_9 qe1_10 qeB_0 qeB_1 qeB_2 qeB_3 z0 z1 z2 z3 z4 z5 z6 z7 z8 z9 z10 y0 y1 y2 y3 fz bb bA D0 D1 E0 L0 HB HR HQ H1 HN HZ HC BW' A' D1' 
        have r5 := (Cells.put11 d2 (.int .i64 r.k) (.int .u8 r.p) (.int .u32 r.sa) (.int .i64 r.sb) (.int .u32 r.da) (.int .i64 r.db) (.int .u32 r.e) (.int .u16 r.f) (.int .u16 r.t) (.int .u32 r.ia) (.int .u16 r.ip))
        have b5 := (Below.put11 l2 (b := w.heap.size + 1) (by first | exact Nat.le_refl _ | omega) (.int .i64 r.k) (.int .u8 r.p) (.int .u32 r.sa) (.int .i64 r.sb) (.int .u32 r.da) (.int .i64 r.db) (.int .u32 r.e) (.int .u16 r.f) (.int .u16 r.t) (.int .u32 r.ia) (.int .u16 r.ip))
        have HR5 := hide r5; have HB5 := hide b5
        clear r5 b5 d2
        generalize ((((((((((((wr.alloc (.cells #[.int .i64 r.k, .int .u8 r.p, .int .u32 r.sa, .int .i64 r.sb, .int .u32 r.da, .int .i64 r.db, .int .u32 r.e, .int .u16 r.f, .int .u16 r.t, .int .u32 r.ia, .int .u16 r.ip] 30)).setCell ⟨w.heap.size + 1, 0, none⟩ (.int .i64 r.k)).setCell ⟨w.heap.size + 1, 1, none⟩ (.int .u8 r.p)).setCell ⟨w.heap.size + 1, 2, none⟩ (.int .u32 r.sa)).setCell ⟨w.heap.size + 1, 3, none⟩ (.int .i64 r.sb)).setCell ⟨w.heap.size + 1, 4, none⟩ (.int .u32 r.da)).setCell ⟨w.heap.size + 1, 5, none⟩ (.int .i64 r.db)).setCell ⟨w.heap.size + 1, 6, none⟩ (.int .u32 r.e)).setCell ⟨w.heap.size + 1, 7, none⟩ (.int .u16 r.f)).setCell ⟨w.heap.size + 1, 8, none⟩ (.int .u16 r.t)).setCell ⟨w.heap.size + 1, 9, none⟩ (.int .u32 r.ia)).setCell ⟨w.heap.size + 1, 10, none⟩ (.int .u16 r.ip)) = W5 at *
        have r5 := HR5.out; have b5 := HB5.out
        clear HR5 HB5
        have xr5_0 : W5.cell? ⟨w.heap.size + 1, 0, none⟩ = some (.int .i64 r.k) := r5.at_ 0
        have xr5_1 : W5.cell? ⟨w.heap.size + 1, 1, none⟩ = some (.int .u8 r.p) := r5.at_ 1
        have xr5_2 : W5.cell? ⟨w.heap.size + 1, 2, none⟩ = some (.int .u32 r.sa) := r5.at_ 2
        have xr5_3 : W5.cell? ⟨w.heap.size + 1, 3, none⟩ = some (.int .i64 r.sb) := r5.at_ 3
        have xr5_4 : W5.cell? ⟨w.heap.size + 1, 4, none⟩ = some (.int .u32 r.da) := r5.at_ 4
        have xr5_5 : W5.cell? ⟨w.heap.size + 1, 5, none⟩ = some (.int .i64 r.db) := r5.at_ 5
        have xr5_6 : W5.cell? ⟨w.heap.size + 1, 6, none⟩ = some (.int .u32 r.e) := r5.at_ 6
        have xr5_7 : W5.cell? ⟨w.heap.size + 1, 7, none⟩ = some (.int .u16 r.f) := r5.at_ 7
        have xr5_8 : W5.cell? ⟨w.heap.size + 1, 8, none⟩ = some (.int .u16 r.t) := r5.at_ 8
        have xr5_9 : W5.cell? ⟨w.heap.size + 1, 9, none⟩ = some (.int .u32 r.ia) := r5.at_ 9
        have xr5_10 : W5.cell? ⟨w.heap.size + 1, 10, none⟩ = some (.int .u16 r.ip) := r5.at_ 10
        (try simp only [Exit.inBlock, Exit.then]); refine bodyPost_ret (by simp [results, Try.results56, go_sem, *]; try rfl) rfl ?_
        rw [HE.out.1, HE.out.2]
        exact ⟨rfl, b5⟩
      | false =>
        go_wp2_with fail
        all_goals first
          | (exfalso; have hz := HZ.out.symm; simp only [stP, Bool.and_eq_false_iff, decide_eq_false_iff_not] at hz; (try rename_i hh); (try simp only [beq_iff_eq, Bool.and_eq_true] at hh); omega)
          | (go_roundg (n - (kk + 1))
             case measure => omega
             case rel =>
              refine ⟨kk + 1, by omega, by omega, by go_num, (show Aside _ from bstep BW'.out.out (by first | with_reducible assumption | exact bA _ _ (by with_reducible assumption))), (show Aside _ from fun j hj hl => ?_)⟩
              by_cases e : j = kk
              · subst e
                rw [← HC.out]; exact HZ.out.symm
              · exact A'.out.out j (by omega) hl)
    · have hltz : ¬ (kk : Int) < (n : Int) := by omega
      have : kk = n := by omega
      subst this
      go_wp2_with fail
      have d2 := D1'.out; have l2 := bstep L0.out BW.out
      have hres : r1 = zeroR ∧ q = false := by
        have hh := firstR_miss (p := stP p ei ep) (l := l) (fun j hl => AA.out j (by rw [HN.out]; exact hl) hl)
        rw [H1.out, HQ.out, hh.1, hh.2]
        exact ⟨rfl, rfl⟩
      have HE := hide hres
      clear hres qe0_0 qe0_1 qe1_0 qe1_1 qe1_2 qe1_3 qe1_4 qe1_5 qe1_6 qe1_7 qe1_8 qe1_9 qe1_10 qeB_0 qeB_1 qeB_2 qeB_3 fz bb bA D0 D1 E0 L0 HB HR HQ H1 HN BW AA D1'
      have r5 := (Cells.put11 d2 (.int .i64 0) (.int .u8 0) (.int .u32 0) (.int .i64 0) (.int .u32 0) (.int .i64 0) (.int .u32 0) (.int .u16 0) (.int .u16 0) (.int .u32 0) (.int .u16 0))
      have b5 := (Below.put11 l2 (b := w.heap.size + 1) (by first | exact Nat.le_refl _ | omega) (.int .i64 0) (.int .u8 0) (.int .u32 0) (.int .i64 0) (.int .u32 0) (.int .i64 0) (.int .u32 0) (.int .u16 0) (.int .u16 0) (.int .u32 0) (.int .u16 0))
      have HR5 := hide r5; have HB5 := hide b5
      clear r5 b5 d2
      generalize (((((((((((wr.setCell ⟨w.heap.size + 1, 0, none⟩ (.int .i64 0)).setCell ⟨w.heap.size + 1, 1, none⟩ (.int .u8 0)).setCell ⟨w.heap.size + 1, 2, none⟩ (.int .u32 0)).setCell ⟨w.heap.size + 1, 3, none⟩ (.int .i64 0)).setCell ⟨w.heap.size + 1, 4, none⟩ (.int .u32 0)).setCell ⟨w.heap.size + 1, 5, none⟩ (.int .i64 0)).setCell ⟨w.heap.size + 1, 6, none⟩ (.int .u32 0)).setCell ⟨w.heap.size + 1, 7, none⟩ (.int .u16 0)).setCell ⟨w.heap.size + 1, 8, none⟩ (.int .u16 0)).setCell ⟨w.heap.size + 1, 9, none⟩ (.int .u32 0)).setCell ⟨w.heap.size + 1, 10, none⟩ (.int .u16 0)) = W5 at *
      have r5 := HR5.out; have b5 := HB5.out
      clear HR5 HB5
      have xr5_0 : W5.cell? ⟨w.heap.size + 1, 0, none⟩ = some (.int .i64 0) := r5.at_ 0
      have xr5_1 : W5.cell? ⟨w.heap.size + 1, 1, none⟩ = some (.int .u8 0) := r5.at_ 1
      have xr5_2 : W5.cell? ⟨w.heap.size + 1, 2, none⟩ = some (.int .u32 0) := r5.at_ 2
      have xr5_3 : W5.cell? ⟨w.heap.size + 1, 3, none⟩ = some (.int .i64 0) := r5.at_ 3
      have xr5_4 : W5.cell? ⟨w.heap.size + 1, 4, none⟩ = some (.int .u32 0) := r5.at_ 4
      have xr5_5 : W5.cell? ⟨w.heap.size + 1, 5, none⟩ = some (.int .i64 0) := r5.at_ 5
      have xr5_6 : W5.cell? ⟨w.heap.size + 1, 6, none⟩ = some (.int .u32 0) := r5.at_ 6
      have xr5_7 : W5.cell? ⟨w.heap.size + 1, 7, none⟩ = some (.int .u16 0) := r5.at_ 7
      have xr5_8 : W5.cell? ⟨w.heap.size + 1, 8, none⟩ = some (.int .u16 0) := r5.at_ 8
      have xr5_9 : W5.cell? ⟨w.heap.size + 1, 9, none⟩ = some (.int .u32 0) := r5.at_ 9
      have xr5_10 : W5.cell? ⟨w.heap.size + 1, 10, none⟩ = some (.int .u16 0) := r5.at_ 10
      (try simp only [Exit.inBlock, Exit.then]); refine bodyPost_ret (by simp [results, Try.results56, go_sem, *]; try rfl) rfl ?_
      rw [HE.out.1, HE.out.2]
      exact ⟨rfl, b5⟩

set_option maxHeartbeats 4000000 in
set_option maxRecDepth 100000 in
theorem d_OwnRule (w : World) (B : Nat) (o ip b : Int) (v : Value) (l : List Rule) (h : DS w B o ip b l v) (hl : l.length ≤ 1000) (p ei ep : Int) :
    Calls Try.prog 57 #[.pointer (some ⟨B, 0, none⟩), .int .u8 p, .agg #[.int .u32 ei, .int .u16 ep]] w (Ret (.tuple #[.agg (rawR (owP p ei ep) l).cells, .bool (l.any (owP p ei ep))]) w) := by
  obtain ⟨A, c, hv, hrow⟩ := h.rows
  have hB := h.tbl
  obtain ⟨r1, hr1⟩ : ∃ r1, r1 = rawR (owP p ei ep) l := ⟨_, rfl⟩
  obtain ⟨q, hq⟩ : ∃ q, q = l.any (owP p ei ep) := ⟨_, rfl⟩
  rw [← hr1, ← hq]
  obtain ⟨n, hn⟩ : ∃ n, n = l.length := ⟨_, rfl⟩
  rw [hv, ← hn] at hB
  unfold rawR at hr1
  unfold Rule.cells
  have hn63 : (n : Int) ≤ 1000 := by omega
  have HN := hide hn; have HB := hide hB; have HR := hide hrow; have HQ := hide hq; have H1 := hide hr1
  clear h hv hrow hB hq hr1 hn hl
  go_enter Try.func57, Try.ntmps57
  have d0 := Cells.new w #[.int .u32 ei, .int .u16 ep] 28
  replace d0 := Cells.below (fresh_below (w.alloc (.cells #[.int .u32 ei, .int .u16 ep] 28)) (.cells #[.int .i64 0, .int .u8 0, .int .u32 0, .int .i64 0, .int .u32 0, .int .i64 0, .int .u32 0, .int .u16 0, .int .u16 0, .int .u32 0, .int .u16 0] 30)) d0
  have d1 := Cells.new (w.alloc (.cells #[.int .u32 ei, .int .u16 ep] 28)) #[.int .i64 0, .int .u8 0, .int .u32 0, .int .i64 0, .int .u32 0, .int .i64 0, .int .u32 0, .int .u16 0, .int .u16 0, .int .u32 0, .int .u16 0] 30
  have l0 : Below w.heap.size w ((w.alloc (.cells #[.int .u32 ei, .int .u16 ep] 28)).alloc (.cells #[.int .i64 0, .int .u8 0, .int .u32 0, .int .i64 0, .int .u32 0, .int .i64 0, .int .u32 0, .int .u16 0, .int .u16 0, .int .u32 0, .int .u16 0] 30)) := bstep (fresh_below _ _) (fresh_below _ _)
  rw [World.size_alloc] at d1
  have L0 := hide l0; have D0 := hide d0; have D1 := hide d1
  clear l0 d0 d1
  go_upto_region 1 with fail
  have l0 := L0.out; have d0 := D0.out; have d1 := D1.out
  clear L0 D0 D1
  generalize ((w.alloc (.cells #[.int .u32 ei, .int .u16 ep] 28)).alloc (.cells #[.int .i64 0, .int .u8 0, .int .u32 0, .int .i64 0, .int .u32 0, .int .i64 0, .int .u32 0, .int .u16 0, .int .u16 0, .int .u32 0, .int .u16 0] 30)) = w1 at *
  have D0 := hide d0; have D1 := hide d1; have L0 := hide l0; have E0 := hide (Cells.below l0 HB.out)
  clear d0 d1 l0
  go_wp2_with fail
  go_loopg [8, 9] n (fun gg si _ wr => ∃ kk : Nat, kk ≤ n ∧ n - kk ≤ gg ∧ si = .int .i64 kk ∧ Aside (Below w1.heap.size w1 wr) ∧ Aside (∀ j (hj : j < kk) (hl : j < l.length), (owP p ei ep) l[j] = false))
  case atStart => exact ⟨0, Nat.zero_le _, by omega, rfl, Below.refl _ w1, fun j hj => absurd hj (Nat.not_lt_zero _)⟩
  case round =>
    obtain ⟨kk, hkk, hg, rfl, BW, AA⟩ := hrel
    have e0 := Cells.below BW.out D0.out; have e1 := Cells.below BW.out D1.out; have eB := Cells.below BW.out E0.out
    have qe0_0 : ∀ W', Below wr.heap.size wr W' → World.cell? W' ⟨w.heap.size, 0, none⟩ = some (.int .u32 ei) := fun W' h => Cells.at_ (Cells.below h e0) 0
    have qe0_1 : ∀ W', Below wr.heap.size wr W' → World.cell? W' ⟨w.heap.size, 1, none⟩ = some (.int .u16 ep) := fun W' h => Cells.at_ (Cells.below h e0) 1
    have qe1_0 : ∀ W', Below wr.heap.size wr W' → World.cell? W' ⟨w.heap.size + 1, 0, none⟩ = some (.int .i64 0) := fun W' h => Cells.at_ (Cells.below h e1) 0
    have qe1_1 : ∀ W', Below wr.heap.size wr W' → World.cell? W' ⟨w.heap.size + 1, 1, none⟩ = some (.int .u8 0) := fun W' h => Cells.at_ (Cells.below h e1) 1
    have qe1_2 : ∀ W', Below wr.heap.size wr W' → World.cell? W' ⟨w.heap.size + 1, 2, none⟩ = some (.int .u32 0) := fun W' h => Cells.at_ (Cells.below h e1) 2
    have qe1_3 : ∀ W', Below wr.heap.size wr W' → World.cell? W' ⟨w.heap.size + 1, 3, none⟩ = some (.int .i64 0) := fun W' h => Cells.at_ (Cells.below h e1) 3
    have qe1_4 : ∀ W', Below wr.heap.size wr W' → World.cell? W' ⟨w.heap.size + 1, 4, none⟩ = some (.int .u32 0) := fun W' h => Cells.at_ (Cells.below h e1) 4
    have qe1_5 : ∀ W', Below wr.heap.size wr W' → World.cell? W' ⟨w.heap.size + 1, 5, none⟩ = some (.int .i64 0) := fun W' h => Cells.at_ (Cells.below h e1) 5
    have qe1_6 : ∀ W', Below wr.heap.size wr W' → World.cell? W' ⟨w.heap.size + 1, 6, none⟩ = some (.int .u32 0) := fun W' h => Cells.at_ (Cells.below h e1) 6
    have qe1_7 : ∀ W', Below wr.heap.size wr W' → World.cell? W' ⟨w.heap.size + 1, 7, none⟩ = some (.int .u16 0) := fun W' h => Cells.at_ (Cells.below h e1) 7
    have qe1_8 : ∀ W', Below wr.heap.size wr W' → World.cell? W' ⟨w.heap.size + 1, 8, none⟩ = some (.int .u16 0) := fun W' h => Cells.at_ (Cells.below h e1) 8
    have qe1_9 : ∀ W', Below wr.heap.size wr W' → World.cell? W' ⟨w.heap.size + 1, 9, none⟩ = some (.int .u32 0) := fun W' h => Cells.at_ (Cells.below h e1) 9
    have qe1_10 : ∀ W', Below wr.heap.size wr W' → World.cell? W' ⟨w.heap.size + 1, 10, none⟩ = some (.int .u16 0) := fun W' h => Cells.at_ (Cells.below h e1) 10
    have qeB_0 : ∀ W', Below wr.heap.size wr W' → World.cell? W' ⟨B, 0, none⟩ = some (.int .u32 o) := fun W' h => Cells.at_ (Cells.below h eB) 0
    have qeB_1 : ∀ W', Below wr.heap.size wr W' → World.cell? W' ⟨B, 1, none⟩ = some (.int .u32 ip) := fun W' h => Cells.at_ (Cells.below h eB) 1
    have qeB_2 : ∀ W', Below wr.heap.size wr W' → World.cell? W' ⟨B, 2, none⟩ = some (.int .i64 b) := fun W' h => Cells.at_ (Cells.below h eB) 2
    have qeB_3 : ∀ W', Below wr.heap.size wr W' → World.cell? W' ⟨B, 3, none⟩ = some (.slice A n c) := fun W' h => Cells.at_ (Cells.below h eB) 3
    have fz : ∀ W' i, Below wr.heap.size wr W' → World.frozen? W' ⟨w.heap.size + 1, i, none⟩ = false := fun W' i h => Cells.free (Cells.below h e1) i
    have bb : Below wr.heap.size wr wr := Below.refl _ _
    have bA : ∀ W o, Below wr.heap.size wr W → Below wr.heap.size wr (W.alloc o) := fun W o h => bstep h (fresh_below W o)
    have D1' := hide e1
    clear e0 e1 eB
    by_cases hlt : kk < n
    · have hltz : (kk : Int) < (n : Int) := by omega
      have hl : kk < l.length := by have := HN.out; omega
      obtain ⟨g, rfl, hg0, hrow⟩ := HR.out (by omega)
      have hcell : ∀ i u, i < 11 → (l[kk]).cells.toList[i]? = some u → ∀ W', Below wr.heap.size wr W' → World.cell? W' ⟨g, kk * 11 + i, none⟩ = some u := fun i u hi hu W' hW => by
        rw [(bstep (bstep L0.out BW.out) hW).cell (p := ⟨g, kk * 11 + i, none⟩) hg0]
        exact hrow kk hl i u hi hu
      obtain ⟨r, hr⟩ : ∃ r, r = l[kk] := ⟨_, rfl⟩
      rw [← hr] at hcell
      have z0 : ∀ W', Below wr.heap.size wr W' → World.cell? W' ⟨g, kk * 11, none⟩ = some (.int .i64 r.k) := hcell 0 _ (by omega) rfl
      have z1 : ∀ W', Below wr.heap.size wr W' → World.cell? W' ⟨g, kk * 11 + 1, none⟩ = some (.int .u8 r.p) := hcell 1 _ (by omega) rfl
      have z2 : ∀ W', Below wr.heap.size wr W' → World.cell? W' ⟨g, kk * 11 + 2, none⟩ = some (.int .u32 r.sa) := hcell 2 _ (by omega) rfl
      have z3 : ∀ W', Below wr.heap.size wr W' → World.cell? W' ⟨g, kk * 11 + 3, none⟩ = some (.int .i64 r.sb) := hcell 3 _ (by omega) rfl
      have z4 : ∀ W', Below wr.heap.size wr W' → World.cell? W' ⟨g, kk * 11 + 4, none⟩ = some (.int .u32 r.da) := hcell 4 _ (by omega) rfl
      have z5 : ∀ W', Below wr.heap.size wr W' → World.cell? W' ⟨g, kk * 11 + 5, none⟩ = some (.int .i64 r.db) := hcell 5 _ (by omega) rfl
      have z6 : ∀ W', Below wr.heap.size wr W' → World.cell? W' ⟨g, kk * 11 + 6, none⟩ = some (.int .u32 r.e) := hcell 6 _ (by omega) rfl
      have z7 : ∀ W', Below wr.heap.size wr W' → World.cell? W' ⟨g, kk * 11 + 7, none⟩ = some (.int .u16 r.f) := hcell 7 _ (by omega) rfl
      have z8 : ∀ W', Below wr.heap.size wr W' → World.cell? W' ⟨g, kk * 11 + 8, none⟩ = some (.int .u16 r.t) := hcell 8 _ (by omega) rfl
      have z9 : ∀ W', Below wr.heap.size wr W' → World.cell? W' ⟨g, kk * 11 + 9, none⟩ = some (.int .u32 r.ia) := hcell 9 _ (by omega) rfl
      have z10 : ∀ W', Below wr.heap.size wr W' → World.cell? W' ⟨g, kk * 11 + 10, none⟩ = some (.int .u16 r.ip) := hcell 10 _ (by omega) rfl
      obtain ⟨z, hz⟩ : ∃ z, z = (owP p ei ep) r := ⟨_, rfl⟩
      have HZ := hide hz; have HC := hide hr; have BW' := hide BW; have A' := hide AA
      clear hcell hr hrow hg0 BW AA hz
      cases z with
      | true =>
        have hz := HZ.out
        simp only [owP, Bool.and_eq_true, decide_eq_true_eq, Bool.true_eq] at hz
        have y0 : (r.k == 3) = true := by simp [hz]
        have y1 : (r.p == p) = true := by simp [hz]
        have y2 : (r.ia == ei) = true := by simp [hz]
        have y3 : (r.ip == ep) = true := by simp [hz]
        clear hz
        go_wp2_with fail
        have d2 := Cells.alloc D1'.out (.cells #[.int .i64 r.k, .int .u8 r.p, .int .u32 r.sa, .int .i64 r.sb, .int .u32 r.da, .int .i64 r.db, .int .u32 r.e, .int .u16 r.f, .int .u16 r.t, .int .u32 r.ia, .int .u16 r.ip] 30); have l2 := bstep (bstep L0.out BW'.out.out) (fresh_below wr (.cells #[.int .i64 r.k, .int .u8 r.p, .int .u32 r.sa, .int .i64 r.sb, .int .u32 r.da, .int .i64 r.db, .int .u32 r.e, .int .u16 r.f, .int .u16 r.t, .int .u32 r.ia, .int .u16 r.ip] 30))
        have hres : r1 = r ∧ q = true := by
          have hh := firstR_hit (o := o) (p := owP p ei ep) hl (by rw [← HC.out]; exact HZ.out.symm) (fun j hj hl => A'.out.out j hj hl)
          rw [H1.out, HQ.out, hh.1, hh.2]
          exact ⟨HC.out.symm, rfl⟩
        have HE := hide hres
        clear hres qe0_0 qe0_1 qe1_0 qe1_1 qe1_2 qe1_3 qe1_4 qe1_5 qe1_6 qe1_7 qe1_8 qe1_9 qe1_10 qeB_0 qeB_1 qeB_2 qeB_3 z0 z1 z2 z3 z4 z5 z6 z7 z8 z9 z10 y0 y1 y2 y3 fz bb bA D0 D1 E0 L0 HB HR HQ H1 HN HZ HC BW' A' D1' 
        have r5 := (Cells.put11 d2 (.int .i64 r.k) (.int .u8 r.p) (.int .u32 r.sa) (.int .i64 r.sb) (.int .u32 r.da) (.int .i64 r.db) (.int .u32 r.e) (.int .u16 r.f) (.int .u16 r.t) (.int .u32 r.ia) (.int .u16 r.ip))
        have b5 := (Below.put11 l2 (b := w.heap.size + 1) (by first | exact Nat.le_refl _ | omega) (.int .i64 r.k) (.int .u8 r.p) (.int .u32 r.sa) (.int .i64 r.sb) (.int .u32 r.da) (.int .i64 r.db) (.int .u32 r.e) (.int .u16 r.f) (.int .u16 r.t) (.int .u32 r.ia) (.int .u16 r.ip))
        have HR5 := hide r5; have HB5 := hide b5
        clear r5 b5 d2
        generalize ((((((((((((wr.alloc (.cells #[.int .i64 r.k, .int .u8 r.p, .int .u32 r.sa, .int .i64 r.sb, .int .u32 r.da, .int .i64 r.db, .int .u32 r.e, .int .u16 r.f, .int .u16 r.t, .int .u32 r.ia, .int .u16 r.ip] 30)).setCell ⟨w.heap.size + 1, 0, none⟩ (.int .i64 r.k)).setCell ⟨w.heap.size + 1, 1, none⟩ (.int .u8 r.p)).setCell ⟨w.heap.size + 1, 2, none⟩ (.int .u32 r.sa)).setCell ⟨w.heap.size + 1, 3, none⟩ (.int .i64 r.sb)).setCell ⟨w.heap.size + 1, 4, none⟩ (.int .u32 r.da)).setCell ⟨w.heap.size + 1, 5, none⟩ (.int .i64 r.db)).setCell ⟨w.heap.size + 1, 6, none⟩ (.int .u32 r.e)).setCell ⟨w.heap.size + 1, 7, none⟩ (.int .u16 r.f)).setCell ⟨w.heap.size + 1, 8, none⟩ (.int .u16 r.t)).setCell ⟨w.heap.size + 1, 9, none⟩ (.int .u32 r.ia)).setCell ⟨w.heap.size + 1, 10, none⟩ (.int .u16 r.ip)) = W5 at *
        have r5 := HR5.out; have b5 := HB5.out
        clear HR5 HB5
        have xr5_0 : W5.cell? ⟨w.heap.size + 1, 0, none⟩ = some (.int .i64 r.k) := r5.at_ 0
        have xr5_1 : W5.cell? ⟨w.heap.size + 1, 1, none⟩ = some (.int .u8 r.p) := r5.at_ 1
        have xr5_2 : W5.cell? ⟨w.heap.size + 1, 2, none⟩ = some (.int .u32 r.sa) := r5.at_ 2
        have xr5_3 : W5.cell? ⟨w.heap.size + 1, 3, none⟩ = some (.int .i64 r.sb) := r5.at_ 3
        have xr5_4 : W5.cell? ⟨w.heap.size + 1, 4, none⟩ = some (.int .u32 r.da) := r5.at_ 4
        have xr5_5 : W5.cell? ⟨w.heap.size + 1, 5, none⟩ = some (.int .i64 r.db) := r5.at_ 5
        have xr5_6 : W5.cell? ⟨w.heap.size + 1, 6, none⟩ = some (.int .u32 r.e) := r5.at_ 6
        have xr5_7 : W5.cell? ⟨w.heap.size + 1, 7, none⟩ = some (.int .u16 r.f) := r5.at_ 7
        have xr5_8 : W5.cell? ⟨w.heap.size + 1, 8, none⟩ = some (.int .u16 r.t) := r5.at_ 8
        have xr5_9 : W5.cell? ⟨w.heap.size + 1, 9, none⟩ = some (.int .u32 r.ia) := r5.at_ 9
        have xr5_10 : W5.cell? ⟨w.heap.size + 1, 10, none⟩ = some (.int .u16 r.ip) := r5.at_ 10
        (try simp only [Exit.inBlock, Exit.then]); refine bodyPost_ret (by simp [results, Try.results57, go_sem, *]; try rfl) rfl ?_
        rw [HE.out.1, HE.out.2]
        exact ⟨rfl, b5⟩
      | false =>
        go_wp2_with fail
        all_goals first
          | (exfalso; have hz := HZ.out.symm; simp only [owP, Bool.and_eq_false_iff, decide_eq_false_iff_not] at hz; (try rename_i hh); (try simp only [beq_iff_eq, Bool.and_eq_true] at hh); omega)
          | (go_roundg (n - (kk + 1))
             case measure => omega
             case rel =>
              refine ⟨kk + 1, by omega, by omega, by go_num, (show Aside _ from bstep BW'.out.out (by first | with_reducible assumption | exact bA _ _ (by with_reducible assumption))), (show Aside _ from fun j hj hl => ?_)⟩
              by_cases e : j = kk
              · subst e
                rw [← HC.out]; exact HZ.out.symm
              · exact A'.out.out j (by omega) hl)
    · have hltz : ¬ (kk : Int) < (n : Int) := by omega
      have : kk = n := by omega
      subst this
      go_wp2_with fail
      have d2 := D1'.out; have l2 := bstep L0.out BW.out
      have hres : r1 = zeroR ∧ q = false := by
        have hh := firstR_miss (p := owP p ei ep) (l := l) (fun j hl => AA.out j (by rw [HN.out]; exact hl) hl)
        rw [H1.out, HQ.out, hh.1, hh.2]
        exact ⟨rfl, rfl⟩
      have HE := hide hres
      clear hres qe0_0 qe0_1 qe1_0 qe1_1 qe1_2 qe1_3 qe1_4 qe1_5 qe1_6 qe1_7 qe1_8 qe1_9 qe1_10 qeB_0 qeB_1 qeB_2 qeB_3 fz bb bA D0 D1 E0 L0 HB HR HQ H1 HN BW AA D1'
      have r5 := (Cells.put11 d2 (.int .i64 0) (.int .u8 0) (.int .u32 0) (.int .i64 0) (.int .u32 0) (.int .i64 0) (.int .u32 0) (.int .u16 0) (.int .u16 0) (.int .u32 0) (.int .u16 0))
      have b5 := (Below.put11 l2 (b := w.heap.size + 1) (by first | exact Nat.le_refl _ | omega) (.int .i64 0) (.int .u8 0) (.int .u32 0) (.int .i64 0) (.int .u32 0) (.int .i64 0) (.int .u32 0) (.int .u16 0) (.int .u16 0) (.int .u32 0) (.int .u16 0))
      have HR5 := hide r5; have HB5 := hide b5
      clear r5 b5 d2
      generalize (((((((((((wr.setCell ⟨w.heap.size + 1, 0, none⟩ (.int .i64 0)).setCell ⟨w.heap.size + 1, 1, none⟩ (.int .u8 0)).setCell ⟨w.heap.size + 1, 2, none⟩ (.int .u32 0)).setCell ⟨w.heap.size + 1, 3, none⟩ (.int .i64 0)).setCell ⟨w.heap.size + 1, 4, none⟩ (.int .u32 0)).setCell ⟨w.heap.size + 1, 5, none⟩ (.int .i64 0)).setCell ⟨w.heap.size + 1, 6, none⟩ (.int .u32 0)).setCell ⟨w.heap.size + 1, 7, none⟩ (.int .u16 0)).setCell ⟨w.heap.size + 1, 8, none⟩ (.int .u16 0)).setCell ⟨w.heap.size + 1, 9, none⟩ (.int .u32 0)).setCell ⟨w.heap.size + 1, 10, none⟩ (.int .u16 0)) = W5 at *
      have r5 := HR5.out; have b5 := HB5.out
      clear HR5 HB5
      have xr5_0 : W5.cell? ⟨w.heap.size + 1, 0, none⟩ = some (.int .i64 0) := r5.at_ 0
      have xr5_1 : W5.cell? ⟨w.heap.size + 1, 1, none⟩ = some (.int .u8 0) := r5.at_ 1
      have xr5_2 : W5.cell? ⟨w.heap.size + 1, 2, none⟩ = some (.int .u32 0) := r5.at_ 2
      have xr5_3 : W5.cell? ⟨w.heap.size + 1, 3, none⟩ = some (.int .i64 0) := r5.at_ 3
      have xr5_4 : W5.cell? ⟨w.heap.size + 1, 4, none⟩ = some (.int .u32 0) := r5.at_ 4
      have xr5_5 : W5.cell? ⟨w.heap.size + 1, 5, none⟩ = some (.int .i64 0) := r5.at_ 5
      have xr5_6 : W5.cell? ⟨w.heap.size + 1, 6, none⟩ = some (.int .u32 0) := r5.at_ 6
      have xr5_7 : W5.cell? ⟨w.heap.size + 1, 7, none⟩ = some (.int .u16 0) := r5.at_ 7
      have xr5_8 : W5.cell? ⟨w.heap.size + 1, 8, none⟩ = some (.int .u16 0) := r5.at_ 8
      have xr5_9 : W5.cell? ⟨w.heap.size + 1, 9, none⟩ = some (.int .u32 0) := r5.at_ 9
      have xr5_10 : W5.cell? ⟨w.heap.size + 1, 10, none⟩ = some (.int .u16 0) := r5.at_ 10
      (try simp only [Exit.inBlock, Exit.then]); refine bodyPost_ret (by simp [results, Try.results57, go_sem, *]; try rfl) rfl ?_
      rw [HE.out.1, HE.out.2]
      exact ⟨rfl, b5⟩
end Go.Proofs.Ytbboajhdijabbaa
