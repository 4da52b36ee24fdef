/- rules: the document's Source (porterref11). -/
import Derived.Test.YtbboajhdijabbaaRdoc2
set_option linter.unusedVariables false
set_option linter.unusedSimpArgs false
namespace Go.Proofs.Ytbboajhdijabbaa
open Go.RowKit Go.Lib
attribute [local go_sem] Oper.semAt_some

theorem wholeR_eq (o : Int) (r : Rule) : wholeR o r = ⟨r.k, r.p, r.sa, r.sb, r.da, r.db, (wholeR o r).e, r.f, r.t, r.ia, r.ip⟩ := by
  unfold wholeR
  split <;> rfl

set_option maxHeartbeats 4000000 in
set_option maxRecDepth 100000 in
theorem d_Source (w : World) (B : Nat) (o ip b : Int) (v : Value) (l : List Rule) (h : DS w B o ip b l v) (hl : l.length ≤ 1000) (hok : ∀ r ∈ l, r.Ok) (p si sp di dp : Int) (hs : 0 ≤ si ∧ si ≤ 4294967295) (hd : 0 ≤ di ∧ di ≤ 4294967295) :
    Calls Try.prog 58 #[.pointer (some ⟨B, 0, none⟩), .agg #[.int .u8 p, .int .u32 si, .int .u16 sp, .int .u32 di, .int .u16 dp]] w (Ret (.tuple #[.agg (firstR o (srcP p si di) l).cells, .bool (l.any (srcP p si di))]) w) := by
  obtain ⟨A, c, hv, hrow⟩ := h.rows
  have hB := h.tbl
  obtain ⟨r1, hr1⟩ : ∃ r1, r1 = firstR o (srcP p si di) l := ⟨_, rfl⟩
  obtain ⟨q, hq⟩ : ∃ q, q = l.any (srcP p si di) := ⟨_, rfl⟩
  rw [← hr1, ← hq]
  obtain ⟨n, hn⟩ : ∃ n, n = l.length := ⟨_, rfl⟩
  rw [hv, ← hn] at hB
  unfold firstR at hr1
  have ce := fun W r (hW : Below w.heap.size w W) => d_ext W B o ip b _ r (Doc.below hB hW)
  unfold Rule.cells at *
  have hn63 : (n : Int) ≤ 1000 := by omega
  have HN := hide hn; have HB := hide hB; have HR := hide hrow; have HQ := hide hq; have H1 := hide hr1; have CE := hide ce; have OK := hide hok; have HS := hide hs; have HD := hide hd
  clear h hv hrow hB hq hr1 hn hl ce hok hs hd
  go_enter Try.func58, Try.ntmps58
  have d0 := Cells.new w #[.int .u8 p, .int .u32 si, .int .u16 sp, .int .u32 di, .int .u16 dp] 49
  replace d0 := Cells.below (fresh_below (w.alloc (.cells #[.int .u8 p, .int .u32 si, .int .u16 sp, .int .u32 di, .int .u16 dp] 49)) (.cells #[.int .i64 0, .int .u8 0, .int .u32 0, .int .i64 0, .int .u32 0, .int .i64 0, .int .u32 0, .int .u16 0, .int .u16 0, .int .u32 0, .int .u16 0] 30)) d0
  have d1 := Cells.new (w.alloc (.cells #[.int .u8 p, .int .u32 si, .int .u16 sp, .int .u32 di, .int .u16 dp] 49)) #[.int .i64 0, .int .u8 0, .int .u32 0, .int .i64 0, .int .u32 0, .int .i64 0, .int .u32 0, .int .u16 0, .int .u16 0, .int .u32 0, .int .u16 0] 30
  have l0 : Below w.heap.size w ((w.alloc (.cells #[.int .u8 p, .int .u32 si, .int .u16 sp, .int .u32 di, .int .u16 dp] 49)).alloc (.cells #[.int .i64 0, .int .u8 0, .int .u32 0, .int .i64 0, .int .u32 0, .int .i64 0, .int .u32 0, .int .u16 0, .int .u16 0, .int .u32 0, .int .u16 0] 30)) := bstep (fresh_below _ _) (fresh_below _ _)
  rw [World.size_alloc] at d1
  have L0 := hide l0; have D0 := hide d0; have D1 := hide d1
  clear l0 d0 d1
  go_upto_region 1 with fail
  have l0 := L0.out; have d0 := D0.out; have d1 := D1.out
  clear L0 D0 D1
  generalize ((w.alloc (.cells #[.int .u8 p, .int .u32 si, .int .u16 sp, .int .u32 di, .int .u16 dp] 49)).alloc (.cells #[.int .i64 0, .int .u8 0, .int .u32 0, .int .i64 0, .int .u32 0, .int .i64 0, .int .u32 0, .int .u16 0, .int .u16 0, .int .u32 0, .int .u16 0] 30)) = w1 at *
  have D0 := hide d0; have D1 := hide d1; have L0 := hide l0; have E0 := hide (Cells.below l0 HB.out)
  clear d0 d1 l0
  go_wp2_with fail
  go_loopg [6, 7] n (fun gg sj _ wr => ∃ kk : Nat, kk ≤ n ∧ n - kk ≤ gg ∧ sj = .int .i64 kk ∧ Aside (Below w1.heap.size w1 wr) ∧ Aside (∀ j (hj : j < kk) (hl : j < l.length), (srcP p si di) l[j] = false))
  case atStart => exact ⟨0, Nat.zero_le _, by omega, rfl, Below.refl _ w1, fun j hj => absurd hj (Nat.not_lt_zero _)⟩
  case round =>
    obtain ⟨kk, hkk, hg, rfl, BW, AA⟩ := hrel
    have e0 := Cells.below BW.out D0.out; have e1 := Cells.below BW.out D1.out; have eB := Cells.below BW.out E0.out
    have qe0_0 : ∀ W', Below wr.heap.size wr W' → World.cell? W' ⟨w.heap.size, 0, none⟩ = some (.int .u8 p) := fun W' h => Cells.at_ (Cells.below h e0) 0
    have qe0_1 : ∀ W', Below wr.heap.size wr W' → World.cell? W' ⟨w.heap.size, 1, none⟩ = some (.int .u32 si) := fun W' h => Cells.at_ (Cells.below h e0) 1
    have qe0_2 : ∀ W', Below wr.heap.size wr W' → World.cell? W' ⟨w.heap.size, 2, none⟩ = some (.int .u16 sp) := fun W' h => Cells.at_ (Cells.below h e0) 2
    have qe0_3 : ∀ W', Below wr.heap.size wr W' → World.cell? W' ⟨w.heap.size, 3, none⟩ = some (.int .u32 di) := fun W' h => Cells.at_ (Cells.below h e0) 3
    have qe0_4 : ∀ W', Below wr.heap.size wr W' → World.cell? W' ⟨w.heap.size, 4, none⟩ = some (.int .u16 dp) := fun W' h => Cells.at_ (Cells.below h e0) 4
    have qe1_0 : ∀ W', Below wr.heap.size wr W' → World.cell? W' ⟨w.heap.size + 1, 0, none⟩ = some (.int .i64 0) := fun W' h => Cells.at_ (Cells.below h e1) 0
    have qe1_1 : ∀ W', Below wr.heap.size wr W' → World.cell? W' ⟨w.heap.size + 1, 1, none⟩ = some (.int .u8 0) := fun W' h => Cells.at_ (Cells.below h e1) 1
    have qe1_2 : ∀ W', Below wr.heap.size wr W' → World.cell? W' ⟨w.heap.size + 1, 2, none⟩ = some (.int .u32 0) := fun W' h => Cells.at_ (Cells.below h e1) 2
    have qe1_3 : ∀ W', Below wr.heap.size wr W' → World.cell? W' ⟨w.heap.size + 1, 3, none⟩ = some (.int .i64 0) := fun W' h => Cells.at_ (Cells.below h e1) 3
    have qe1_4 : ∀ W', Below wr.heap.size wr W' → World.cell? W' ⟨w.heap.size + 1, 4, none⟩ = some (.int .u32 0) := fun W' h => Cells.at_ (Cells.below h e1) 4
    have qe1_5 : ∀ W', Below wr.heap.size wr W' → World.cell? W' ⟨w.heap.size + 1, 5, none⟩ = some (.int .i64 0) := fun W' h => Cells.at_ (Cells.below h e1) 5
    have qe1_6 : ∀ W', Below wr.heap.size wr W' → World.cell? W' ⟨w.heap.size + 1, 6, none⟩ = some (.int .u32 0) := fun W' h => Cells.at_ (Cells.below h e1) 6
    have qe1_7 : ∀ W', Below wr.heap.size wr W' → World.cell? W' ⟨w.heap.size + 1, 7, none⟩ = some (.int .u16 0) := fun W' h => Cells.at_ (Cells.below h e1) 7
    have qe1_8 : ∀ W', Below wr.heap.size wr W' → World.cell? W' ⟨w.heap.size + 1, 8, none⟩ = some (.int .u16 0) := fun W' h => Cells.at_ (Cells.below h e1) 8
    have qe1_9 : ∀ W', Below wr.heap.size wr W' → World.cell? W' ⟨w.heap.size + 1, 9, none⟩ = some (.int .u32 0) := fun W' h => Cells.at_ (Cells.below h e1) 9
    have qe1_10 : ∀ W', Below wr.heap.size wr W' → World.cell? W' ⟨w.heap.size + 1, 10, none⟩ = some (.int .u16 0) := fun W' h => Cells.at_ (Cells.below h e1) 10
    have qeB_0 : ∀ W', Below wr.heap.size wr W' → World.cell? W' ⟨B, 0, none⟩ = some (.int .u32 o) := fun W' h => Cells.at_ (Cells.below h eB) 0
    have qeB_1 : ∀ W', Below wr.heap.size wr W' → World.cell? W' ⟨B, 1, none⟩ = some (.int .u32 ip) := fun W' h => Cells.at_ (Cells.below h eB) 1
    have qeB_2 : ∀ W', Below wr.heap.size wr W' → World.cell? W' ⟨B, 2, none⟩ = some (.int .i64 b) := fun W' h => Cells.at_ (Cells.below h eB) 2
    have qeB_3 : ∀ W', Below wr.heap.size wr W' → World.cell? W' ⟨B, 3, none⟩ = some (.slice A n c) := fun W' h => Cells.at_ (Cells.below h eB) 3
    have bb : Below wr.heap.size wr wr := Below.refl _ _
    have D0' := hide e0; have D1' := hide e1; have EB := hide eB
    clear e0 e1 eB
    by_cases hlt : kk < n
    · have hltz : (kk : Int) < (n : Int) := by omega
      have hl : kk < l.length := by have := HN.out; omega
      obtain ⟨g, rfl, hg0, hrow⟩ := HR.out (by omega)
      have hcell : ∀ i u, i < 11 → (l[kk]).cells.toList[i]? = some u → ∀ W', Below wr.heap.size wr W' → World.cell? W' ⟨g, kk * 11 + i, none⟩ = some u := fun i u hi hu W' hW => by
        rw [(bstep (bstep L0.out BW.out) hW).cell (p := ⟨g, kk * 11 + i, none⟩) hg0]
        exact hrow kk hl i u hi hu
      obtain ⟨r, hr⟩ : ∃ r, r = l[kk] := ⟨_, rfl⟩
      rw [← hr] at hcell
      have z0 : ∀ W', Below wr.heap.size wr W' → World.cell? W' ⟨g, kk * 11, none⟩ = some (.int .i64 r.k) := hcell 0 _ (by omega) rfl
      have z1 : ∀ W', Below wr.heap.size wr W' → World.cell? W' ⟨g, kk * 11 + 1, none⟩ = some (.int .u8 r.p) := hcell 1 _ (by omega) rfl
      have z2 : ∀ W', Below wr.heap.size wr W' → World.cell? W' ⟨g, kk * 11 + 2, none⟩ = some (.int .u32 r.sa) := hcell 2 _ (by omega) rfl
      have z3 : ∀ W', Below wr.heap.size wr W' → World.cell? W' ⟨g, kk * 11 + 3, none⟩ = some (.int .i64 r.sb) := hcell 3 _ (by omega) rfl
      have z4 : ∀ W', Below wr.heap.size wr W' → World.cell? W' ⟨g, kk * 11 + 4, none⟩ = some (.int .u32 r.da) := hcell 4 _ (by omega) rfl
      have z5 : ∀ W', Below wr.heap.size wr W' → World.cell? W' ⟨g, kk * 11 + 5, none⟩ = some (.int .i64 r.db) := hcell 5 _ (by omega) rfl
      have z6 : ∀ W', Below wr.heap.size wr W' → World.cell? W' ⟨g, kk * 11 + 6, none⟩ = some (.int .u32 r.e) := hcell 6 _ (by omega) rfl
      have z7 : ∀ W', Below wr.heap.size wr W' → World.cell? W' ⟨g, kk * 11 + 7, none⟩ = some (.int .u16 r.f) := hcell 7 _ (by omega) rfl
      have z8 : ∀ W', Below wr.heap.size wr W' → World.cell? W' ⟨g, kk * 11 + 8, none⟩ = some (.int .u16 r.t) := hcell 8 _ (by omega) rfl
      have z9 : ∀ W', Below wr.heap.size wr W' → World.cell? W' ⟨g, kk * 11 + 9, none⟩ = some (.int .u32 r.ia) := hcell 9 _ (by omega) rfl
      have z10 : ∀ W', Below wr.heap.size wr W' → World.cell? W' ⟨g, kk * 11 + 10, none⟩ = some (.int .u16 r.ip) := hcell 10 _ (by omega) rfl
      have hrok : r.Ok := by rw [hr]; exact OK.out _ (List.getElem_mem hl)
      have c1 := fun W => ref_Has r.sa r.sb si W hrok.2.1 HS.out
      have c2 := fun W => ref_Has r.da r.db di W hrok.2.2.1 HD.out
      have c3 := fun W (hW : Below w.heap.size w W) => CE.out W r hW
      obtain ⟨ze, hze⟩ : ∃ ze, ze = (wholeR o r).e := ⟨_, rfl⟩
      rw [← hze] at c3
      obtain ⟨z, hz⟩ : ∃ z, z = (srcP p si di) r := ⟨_, rfl⟩
      have HZ := hide hz
      have hz2 := hz
      simp only [srcP] at hz2
      generalize hasP r.sa r.sb si = q1 at *
      generalize hasP r.da r.db di = q2 at *
      have HC := hide hr; have BW' := hide BW; have A' := hide AA; have C1 := hide c1; have C2 := hide c2; have C3 := hide c3; have ZE := hide hze
      clear hcell hr hrow hg0 BW AA hz c1 c2 c3 hrok hze
      go_upto_region 5 with fail
      have d5 := Cells.new wr #[.int .i64 r.k, .int .u8 r.p, .int .u32 r.sa, .int .i64 r.sb, .int .u32 r.da, .int .i64 r.db, .int .u32 r.e, .int .u16 r.f, .int .u16 r.t, .int .u32 r.ia, .int .u16 r.ip] 30
      have l5 := fresh_below wr (.cells #[.int .i64 r.k, .int .u8 r.p, .int .u32 r.sa, .int .i64 r.sb, .int .u32 r.da, .int .i64 r.db, .int .u32 r.e, .int .u16 r.f, .int .u16 r.t, .int .u32 r.ia, .int .u16 r.ip] 30)
      clear z0 z1 z2 z3 z4 z5 z6 z7 z8 z9 z10 bb qe0_0 qe0_1 qe0_2 qe0_3 qe0_4 qe1_0 qe1_1 qe1_2 qe1_3 qe1_4 qe1_5 qe1_6 qe1_7 qe1_8 qe1_9 qe1_10 qeB_0 qeB_1 qeB_2 qeB_3
      generalize wr.alloc (.cells #[.int .i64 r.k, .int .u8 r.p, .int .u32 r.sa, .int .i64 r.sb, .int .u32 r.da, .int .i64 r.db, .int .u32 r.e, .int .u16 r.f, .int .u16 r.t, .int .u32 r.ia, .int .u16 r.ip] 30) = w4 at *
      have e0 := Cells.below l5 D0'.out; have e1 := Cells.below l5 D1'.out; have eB := Cells.below l5 EB.out
      have qe0_0 : ∀ W', Below w4.heap.size w4 W' → World.cell? W' ⟨w.heap.size, 0, none⟩ = some (.int .u8 p) := fun W' h => Cells.at_ (Cells.below h e0) 0
      have qe0_1 : ∀ W', Below w4.heap.size w4 W' → World.cell? W' ⟨w.heap.size, 1, none⟩ = some (.int .u32 si) := fun W' h => Cells.at_ (Cells.below h e0) 1
      have qe0_2 : ∀ W', Below w4.heap.size w4 W' → World.cell? W' ⟨w.heap.size, 2, none⟩ = some (.int .u16 sp) := fun W' h => Cells.at_ (Cells.below h e0) 2
      have qe0_3 : ∀ W', Below w4.heap.size w4 W' → World.cell? W' ⟨w.heap.size, 3, none⟩ = some (.int .u32 di) := fun W' h => Cells.at_ (Cells.below h e0) 3
      have qe0_4 : ∀ W', Below w4.heap.size w4 W' → World.cell? W' ⟨w.heap.size, 4, none⟩ = some (.int .u16 dp) := fun W' h => Cells.at_ (Cells.below h e0) 4
      have qd5_0 : ∀ W', Below w4.heap.size w4 W' → World.cell? W' ⟨wr.heap.size, 0, none⟩ = some (.int .i64 r.k) := fun W' h => Cells.at_ (Cells.below h d5) 0
      have qd5_1 : ∀ W', Below w4.heap.size w4 W' → World.cell? W' ⟨wr.heap.size, 1, none⟩ = some (.int .u8 r.p) := fun W' h => Cells.at_ (Cells.below h d5) 1
      have qd5_2 : ∀ W', Below w4.heap.size w4 W' → World.cell? W' ⟨wr.heap.size, 2, none⟩ = some (.int .u32 r.sa) := fun W' h => Cells.at_ (Cells.below h d5) 2
      have qd5_3 : ∀ W', Below w4.heap.size w4 W' → World.cell? W' ⟨wr.heap.size, 3, none⟩ = some (.int .i64 r.sb) := fun W' h => Cells.at_ (Cells.below h d5) 3
      have qd5_4 : ∀ W', Below w4.heap.size w4 W' → World.cell? W' ⟨wr.heap.size, 4, none⟩ = some (.int .u32 r.da) := fun W' h => Cells.at_ (Cells.below h d5) 4
      have qd5_5 : ∀ W', Below w4.heap.size w4 W' → World.cell? W' ⟨wr.heap.size, 5, none⟩ = some (.int .i64 r.db) := fun W' h => Cells.at_ (Cells.below h d5) 5
      have qd5_6 : ∀ W', Below w4.heap.size w4 W' → World.cell? W' ⟨wr.heap.size, 6, none⟩ = some (.int .u32 r.e) := fun W' h => Cells.at_ (Cells.below h d5) 6
      have qd5_7 : ∀ W', Below w4.heap.size w4 W' → World.cell? W' ⟨wr.heap.size, 7, none⟩ = some (.int .u16 r.f) := fun W' h => Cells.at_ (Cells.below h d5) 7
      have qd5_8 : ∀ W', Below w4.heap.size w4 W' → World.cell? W' ⟨wr.heap.size, 8, none⟩ = some (.int .u16 r.t) := fun W' h => Cells.at_ (Cells.below h d5) 8
      have qd5_9 : ∀ W', Below w4.heap.size w4 W' → World.cell? W' ⟨wr.heap.size, 9, none⟩ = some (.int .u32 r.ia) := fun W' h => Cells.at_ (Cells.below h d5) 9
      have qd5_10 : ∀ W', Below w4.heap.size w4 W' → World.cell? W' ⟨wr.heap.size, 10, none⟩ = some (.int .u16 r.ip) := fun W' h => Cells.at_ (Cells.below h d5) 10
      have qeB_0 : ∀ W', Below w4.heap.size w4 W' → World.cell? W' ⟨B, 0, none⟩ = some (.int .u32 o) := fun W' h => Cells.at_ (Cells.below h eB) 0
      have qeB_1 : ∀ W', Below w4.heap.size w4 W' → World.cell? W' ⟨B, 1, none⟩ = some (.int .u32 ip) := fun W' h => Cells.at_ (Cells.below h eB) 1
      have qeB_2 : ∀ W', Below w4.heap.size w4 W' → World.cell? W' ⟨B, 2, none⟩ = some (.int .i64 b) := fun W' h => Cells.at_ (Cells.below h eB) 2
      have qeB_3 : ∀ W', Below w4.heap.size w4 W' → World.cell? W' ⟨B, 3, none⟩ = some (.slice (some ⟨g, 0, none⟩) n c) := fun W' h => Cells.at_ (Cells.below h eB) 3
      have fz : ∀ W' i, Below w4.heap.size w4 W' → World.frozen? W' ⟨wr.heap.size, i, none⟩ = false := fun W' i h => Cells.free (Cells.below h d5) i
      have bb : Below w4.heap.size w4 w4 := Below.refl _ _
      have L4 := hide (bstep (bstep L0.out BW'.out.out) l5)
      have LR := hide (bstep L0.out BW'.out.out)
      have D5 := hide d5; have E1 := hide e1; have L5 := hide l5
      clear e0 e1 eB d5 l5
      cases z with
      | true =>
        simp only [Bool.and_eq_true, Bool.or_eq_true, Bool.not_eq_true', decide_eq_true_eq, decide_eq_false_iff_not, Bool.true_eq] at hz2
        obtain ⟨⟨⟨hk3, hpp⟩, rfl⟩, rfl⟩ := hz2
        have y0 : (r.k != 3) = true := by simp [hk3]
        obtain ⟨z0, hz0⟩ : ∃ z0, (r.p == 0) = z0 := ⟨_, rfl⟩
        have y1 : z0 = false → (r.p == p) = true := fun e => by
          rw [e] at hz0
          rcases hpp with h | h
          · simp [h] at hz0
          · simp [h]
        clear hk3 hpp
        cases z0 with
        | true =>
          clear y1
          go_upto_region 7 with (first | (go_at_call 37; (with_reducible refine (C1.out _).mono ?_); rintro e2 w2 ⟨rfl, b2⟩; have b2' := bstep (by assumption : Below w4.heap.size w4 _) b2; clear b2) | (go_at_call 37; (with_reducible refine (C2.out _).mono ?_); rintro e2 w2 ⟨rfl, b2⟩; have b2' := bstep (by assumption : Below w4.heap.size w4 _) b2; clear b2) | (go_at_call 49; (with_reducible refine (C3.out _ (bstep L4.out (by assumption))).mono ?_); rintro e2 w6 ⟨rfl, b2⟩; have b6 := bstep (by assumption : Below w4.heap.size w4 _) b2; clear b2))
          have d6 := Cells.set_ (Cells.below b6 D5.out) 6 (.int .u32 ze)
          have e6 := Cells.other (Cells.below b6 E1.out) (show w.heap.size + 1 ≠ wr.heap.size by have := Cells.lt D1'.out; omega) 6 (.int .u32 ze)
          have l6 := Below.setCell (bstep L4.out b6) (p := ⟨wr.heap.size, 6, none⟩) LR.out.size (.int .u32 ze)
          have hres : r1 = ⟨r.k, r.p, r.sa, r.sb, r.da, r.db, ze, r.f, r.t, r.ia, r.ip⟩ ∧ q = true := by
            have hh := firstR_hit (o := o) (p := srcP p si di) hl (by rw [← HC.out]; exact HZ.out.symm) (fun j hj hl => A'.out.out j hj hl)
            rw [H1.out, HQ.out, hh.1, hh.2, ZE.out, ← wholeR_eq, HC.out]
            exact ⟨rfl, rfl⟩
          have HE := hide hres
          clear hres qe0_0 qe0_1 qe0_2 qe0_3 qe0_4 qd5_0 qd5_1 qd5_2 qd5_3 qd5_4 qd5_5 qd5_6 qd5_7 qd5_8 qd5_9 qd5_10 qeB_0 qeB_1 qeB_2 qeB_3 fz bb b6
          generalize hw7 : World.setCell w6 _ _ = w7 at *
          clear hw7
          have D6 := hide d6; have E6 := hide e6; have L6 := hide l6
          have xd6_0 : w7.cell? ⟨wr.heap.size, 0, none⟩ = some (.int .i64 r.k) := d6.at_ 0
          have xd6_1 : w7.cell? ⟨wr.heap.size, 1, none⟩ = some (.int .u8 r.p) := d6.at_ 1
          have xd6_2 : w7.cell? ⟨wr.heap.size, 2, none⟩ = some (.int .u32 r.sa) := d6.at_ 2
          have xd6_3 : w7.cell? ⟨wr.heap.size, 3, none⟩ = some (.int .i64 r.sb) := d6.at_ 3
          have xd6_4 : w7.cell? ⟨wr.heap.size, 4, none⟩ = some (.int .u32 r.da) := d6.at_ 4
          have xd6_5 : w7.cell? ⟨wr.heap.size, 5, none⟩ = some (.int .i64 r.db) := d6.at_ 5
          have xd6_6 : w7.cell? ⟨wr.heap.size, 6, none⟩ = some (.int .u32 ze) := d6.at_ 6
          have xd6_7 : w7.cell? ⟨wr.heap.size, 7, none⟩ = some (.int .u16 r.f) := d6.at_ 7
          have xd6_8 : w7.cell? ⟨wr.heap.size, 8, none⟩ = some (.int .u16 r.t) := d6.at_ 8
          have xd6_9 : w7.cell? ⟨wr.heap.size, 9, none⟩ = some (.int .u32 r.ia) := d6.at_ 9
          have xd6_10 : w7.cell? ⟨wr.heap.size, 10, none⟩ = some (.int .u16 r.ip) := d6.at_ 10
          have xe6_0 : w7.cell? ⟨w.heap.size + 1, 0, none⟩ = some (.int .i64 0) := e6.at_ 0
          have xe6_1 : w7.cell? ⟨w.heap.size + 1, 1, none⟩ = some (.int .u8 0) := e6.at_ 1
          have xe6_2 : w7.cell? ⟨w.heap.size + 1, 2, none⟩ = some (.int .u32 0) := e6.at_ 2
          have xe6_3 : w7.cell? ⟨w.heap.size + 1, 3, none⟩ = some (.int .i64 0) := e6.at_ 3
          have xe6_4 : w7.cell? ⟨w.heap.size + 1, 4, none⟩ = some (.int .u32 0) := e6.at_ 4
          have xe6_5 : w7.cell? ⟨w.heap.size + 1, 5, none⟩ = some (.int .i64 0) := e6.at_ 5
          have xe6_6 : w7.cell? ⟨w.heap.size + 1, 6, none⟩ = some (.int .u32 0) := e6.at_ 6
          have xe6_7 : w7.cell? ⟨w.heap.size + 1, 7, none⟩ = some (.int .u16 0) := e6.at_ 7
          have xe6_8 : w7.cell? ⟨w.heap.size + 1, 8, none⟩ = some (.int .u16 0) := e6.at_ 8
          have xe6_9 : w7.cell? ⟨w.heap.size + 1, 9, none⟩ = some (.int .u32 0) := e6.at_ 9
          have xe6_10 : w7.cell? ⟨w.heap.size + 1, 10, none⟩ = some (.int .u16 0) := e6.at_ 10
          have ye6_0 : w7.frozen? ⟨w.heap.size + 1, 0, none⟩ = false := e6.free 0
          have ye6_1 : w7.frozen? ⟨w.heap.size + 1, 1, none⟩ = false := e6.free 1
          have ye6_2 : w7.frozen? ⟨w.heap.size + 1, 2, none⟩ = false := e6.free 2
          have ye6_3 : w7.frozen? ⟨w.heap.size + 1, 3, none⟩ = false := e6.free 3
          have ye6_4 : w7.frozen? ⟨w.heap.size + 1, 4, none⟩ = false := e6.free 4
          have ye6_5 : w7.frozen? ⟨w.heap.size + 1, 5, none⟩ = false := e6.free 5
          have ye6_6 : w7.frozen? ⟨w.heap.size + 1, 6, none⟩ = false := e6.free 6
          have ye6_7 : w7.frozen? ⟨w.heap.size + 1, 7, none⟩ = false := e6.free 7
          have ye6_8 : w7.frozen? ⟨w.heap.size + 1, 8, none⟩ = false := e6.free 8
          have ye6_9 : w7.frozen? ⟨w.heap.size + 1, 9, none⟩ = false := e6.free 9
          have ye6_10 : w7.frozen? ⟨w.heap.size + 1, 10, none⟩ = false := e6.free 10
          clear d6 e6 l6
          go_wp2_with fail
          have d7 := E6.out; have l7 := L6.out
          clear xd6_0 xe6_0 ye6_0 xd6_1 xe6_1 ye6_1 xd6_2 xe6_2 ye6_2 xd6_3 xe6_3 ye6_3 xd6_4 xe6_4 ye6_4 xd6_5 xe6_5 ye6_5 xd6_6 xe6_6 ye6_6 xd6_7 xe6_7 ye6_7 xd6_8 xe6_8 ye6_8 xd6_9 xe6_9 ye6_9 xd6_10 xe6_10 ye6_10 D6 E6 L6
          have r5 := (Cells.put11 d7 (.int .i64 r.k) (.int .u8 r.p) (.int .u32 r.sa) (.int .i64 r.sb) (.int .u32 r.da) (.int .i64 r.db) (.int .u32 ze) (.int .u16 r.f) (.int .u16 r.t) (.int .u32 r.ia) (.int .u16 r.ip))
          have b5 := (Below.put11 l7 (b := w.heap.size + 1) (by first | exact Nat.le_refl _ | omega) (.int .i64 r.k) (.int .u8 r.p) (.int .u32 r.sa) (.int .i64 r.sb) (.int .u32 r.da) (.int .i64 r.db) (.int .u32 ze) (.int .u16 r.f) (.int .u16 r.t) (.int .u32 r.ia) (.int .u16 r.ip))
          have HR5 := hide r5; have HB5 := hide b5
          clear r5 b5 d7
          generalize (((((((((((w7.setCell ⟨w.heap.size + 1, 0, none⟩ (.int .i64 r.k)).setCell ⟨w.heap.size + 1, 1, none⟩ (.int .u8 r.p)).setCell ⟨w.heap.size + 1, 2, none⟩ (.int .u32 r.sa)).setCell ⟨w.heap.size + 1, 3, none⟩ (.int .i64 r.sb)).setCell ⟨w.heap.size + 1, 4, none⟩ (.int .u32 r.da)).setCell ⟨w.heap.size + 1, 5, none⟩ (.int .i64 r.db)).setCell ⟨w.heap.size + 1, 6, none⟩ (.int .u32 ze)).setCell ⟨w.heap.size + 1, 7, none⟩ (.int .u16 r.f)).setCell ⟨w.heap.size + 1, 8, none⟩ (.int .u16 r.t)).setCell ⟨w.heap.size + 1, 9, none⟩ (.int .u32 r.ia)).setCell ⟨w.heap.size + 1, 10, none⟩ (.int .u16 r.ip)) = W5 at *
          have r5 := HR5.out; have b5 := HB5.out
          clear HR5 HB5
          have xr5_0 : W5.cell? ⟨w.heap.size + 1, 0, none⟩ = some (.int .i64 r.k) := r5.at_ 0
          have xr5_1 : W5.cell? ⟨w.heap.size + 1, 1, none⟩ = some (.int .u8 r.p) := r5.at_ 1
          have xr5_2 : W5.cell? ⟨w.heap.size + 1, 2, none⟩ = some (.int .u32 r.sa) := r5.at_ 2
          have xr5_3 : W5.cell? ⟨w.heap.size + 1, 3, none⟩ = some (.int .i64 r.sb) := r5.at_ 3
          have xr5_4 : W5.cell? ⟨w.heap.size + 1, 4, none⟩ = some (.int .u32 r.da) := r5.at_ 4
          have xr5_5 : W5.cell? ⟨w.heap.size + 1, 5, none⟩ = some (.int .i64 r.db) := r5.at_ 5
          have xr5_6 : W5.cell? ⟨w.heap.size + 1, 6, none⟩ = some (.int .u32 ze) := r5.at_ 6
          have xr5_7 : W5.cell? ⟨w.heap.size + 1, 7, none⟩ = some (.int .u16 r.f) := r5.at_ 7
          have xr5_8 : W5.cell? ⟨w.heap.size + 1, 8, none⟩ = some (.int .u16 r.t) := r5.at_ 8
          have xr5_9 : W5.cell? ⟨w.heap.size + 1, 9, none⟩ = some (.int .u32 r.ia) := r5.at_ 9
          have xr5_10 : W5.cell? ⟨w.heap.size + 1, 10, none⟩ = some (.int .u16 r.ip) := r5.at_ 10
          (try simp only [Exit.inBlock, Exit.then]); refine bodyPost_ret (by simp [results, Try.results58, go_sem, *]; try rfl) rfl ?_
          rw [HE.out.1, HE.out.2]
          exact ⟨rfl, b5⟩
        | false =>
          replace y1 := y1 rfl
          go_upto_region 7 with (first | (go_at_call 37; (with_reducible refine (C1.out _).mono ?_); rintro e2 w2 ⟨rfl, b2⟩; have b2' := bstep (by assumption : Below w4.heap.size w4 _) b2; clear b2) | (go_at_call 37; (with_reducible refine (C2.out _).mono ?_); rintro e2 w2 ⟨rfl, b2⟩; have b2' := bstep (by assumption : Below w4.heap.size w4 _) b2; clear b2) | (go_at_call 49; (with_reducible refine (C3.out _ (bstep L4.out (by assumption))).mono ?_); rintro e2 w6 ⟨rfl, b2⟩; have b6 := bstep (by assumption : Below w4.heap.size w4 _) b2; clear b2))
          have d6 := Cells.set_ (Cells.below b6 D5.out) 6 (.int .u32 ze)
          have e6 := Cells.other (Cells.below b6 E1.out) (show w.heap.size + 1 ≠ wr.heap.size by have := Cells.lt D1'.out; omega) 6 (.int .u32 ze)
          have l6 := Below.setCell (bstep L4.out b6) (p := ⟨wr.heap.size, 6, none⟩) LR.out.size (.int .u32 ze)
          have hres : r1 = ⟨r.k, r.p, r.sa, r.sb, r.da, r.db, ze, r.f, r.t, r.ia, r.ip⟩ ∧ q = true := by
            have hh := firstR_hit (o := o) (p := srcP p si di) hl (by rw [← HC.out]; exact HZ.out.symm) (fun j hj hl => A'.out.out j hj hl)
            rw [H1.out, HQ.out, hh.1, hh.2, ZE.out, ← wholeR_eq, HC.out]
            exact ⟨rfl, rfl⟩
          have HE := hide hres
          clear hres qe0_0 qe0_1 qe0_2 qe0_3 qe0_4 qd5_0 qd5_1 qd5_2 qd5_3 qd5_4 qd5_5 qd5_6 qd5_7 qd5_8 qd5_9 qd5_10 qeB_0 qeB_1 qeB_2 qeB_3 fz bb b6
          generalize hw7 : World.setCell w6 _ _ = w7 at *
          clear hw7
          have D6 := hide d6; have E6 := hide e6; have L6 := hide l6
          have xd6_0 : w7.cell? ⟨wr.heap.size, 0, none⟩ = some (.int .i64 r.k) := d6.at_ 0
          have xd6_1 : w7.cell? ⟨wr.heap.size, 1, none⟩ = some (.int .u8 r.p) := d6.at_ 1
          have xd6_2 : w7.cell? ⟨wr.heap.size, 2, none⟩ = some (.int .u32 r.sa) := d6.at_ 2
          have xd6_3 : w7.cell? ⟨wr.heap.size, 3, none⟩ = some (.int .i64 r.sb) := d6.at_ 3
          have xd6_4 : w7.cell? ⟨wr.heap.size, 4, none⟩ = some (.int .u32 r.da) := d6.at_ 4
          have xd6_5 : w7.cell? ⟨wr.heap.size, 5, none⟩ = some (.int .i64 r.db) := d6.at_ 5
          have xd6_6 : w7.cell? ⟨wr.heap.size, 6, none⟩ = some (.int .u32 ze) := d6.at_ 6
          have xd6_7 : w7.cell? ⟨wr.heap.size, 7, none⟩ = some (.int .u16 r.f) := d6.at_ 7
          have xd6_8 : w7.cell? ⟨wr.heap.size, 8, none⟩ = some (.int .u16 r.t) := d6.at_ 8
          have xd6_9 : w7.cell? ⟨wr.heap.size, 9, none⟩ = some (.int .u32 r.ia) := d6.at_ 9
          have xd6_10 : w7.cell? ⟨wr.heap.size, 10, none⟩ = some (.int .u16 r.ip) := d6.at_ 10
          have xe6_0 : w7.cell? ⟨w.heap.size + 1, 0, none⟩ = some (.int .i64 0) := e6.at_ 0
          have xe6_1 : w7.cell? ⟨w.heap.size + 1, 1, none⟩ = some (.int .u8 0) := e6.at_ 1
          have xe6_2 : w7.cell? ⟨w.heap.size + 1, 2, none⟩ = some (.int .u32 0) := e6.at_ 2
          have xe6_3 : w7.cell? ⟨w.heap.size + 1, 3, none⟩ = some (.int .i64 0) := e6.at_ 3
          have xe6_4 : w7.cell? ⟨w.heap.size + 1, 4, none⟩ = some (.int .u32 0) := e6.at_ 4
          have xe6_5 : w7.cell? ⟨w.heap.size + 1, 5, none⟩ = some (.int .i64 0) := e6.at_ 5
          have xe6_6 : w7.cell? ⟨w.heap.size + 1, 6, none⟩ = some (.int .u32 0) := e6.at_ 6
          have xe6_7 : w7.cell? ⟨w.heap.size + 1, 7, none⟩ = some (.int .u16 0) := e6.at_ 7
          have xe6_8 : w7.cell? ⟨w.heap.size + 1, 8, none⟩ = some (.int .u16 0) := e6.at_ 8
          have xe6_9 : w7.cell? ⟨w.heap.size + 1, 9, none⟩ = some (.int .u32 0) := e6.at_ 9
          have xe6_10 : w7.cell? ⟨w.heap.size + 1, 10, none⟩ = some (.int .u16 0) := e6.at_ 10
          have ye6_0 : w7.frozen? ⟨w.heap.size + 1, 0, none⟩ = false := e6.free 0
          have ye6_1 : w7.frozen? ⟨w.heap.size + 1, 1, none⟩ = false := e6.free 1
          have ye6_2 : w7.frozen? ⟨w.heap.size + 1, 2, none⟩ = false := e6.free 2
          have ye6_3 : w7.frozen? ⟨w.heap.size + 1, 3, none⟩ = false := e6.free 3
          have ye6_4 : w7.frozen? ⟨w.heap.size + 1, 4, none⟩ = false := e6.free 4
          have ye6_5 : w7.frozen? ⟨w.heap.size + 1, 5, none⟩ = false := e6.free 5
          have ye6_6 : w7.frozen? ⟨w.heap.size + 1, 6, none⟩ = false := e6.free 6
          have ye6_7 : w7.frozen? ⟨w.heap.size + 1, 7, none⟩ = false := e6.free 7
          have ye6_8 : w7.frozen? ⟨w.heap.size + 1, 8, none⟩ = false := e6.free 8
          have ye6_9 : w7.frozen? ⟨w.heap.size + 1, 9, none⟩ = false := e6.free 9
          have ye6_10 : w7.frozen? ⟨w.heap.size + 1, 10, none⟩ = false := e6.free 10
          clear d6 e6 l6
          go_wp2_with fail
          have d7 := E6.out; have l7 := L6.out
          clear xd6_0 xe6_0 ye6_0 xd6_1 xe6_1 ye6_1 xd6_2 xe6_2 ye6_2 xd6_3 xe6_3 ye6_3 xd6_4 xe6_4 ye6_4 xd6_5 xe6_5 ye6_5 xd6_6 xe6_6 ye6_6 xd6_7 xe6_7 ye6_7 xd6_8 xe6_8 ye6_8 xd6_9 xe6_9 ye6_9 xd6_10 xe6_10 ye6_10 D6 E6 L6
          have r5 := (Cells.put11 d7 (.int .i64 r.k) (.int .u8 r.p) (.int .u32 r.sa) (.int .i64 r.sb) (.int .u32 r.da) (.int .i64 r.db) (.int .u32 ze) (.int .u16 r.f) (.int .u16 r.t) (.int .u32 r.ia) (.int .u16 r.ip))
          have b5 := (Below.put11 l7 (b := w.heap.size + 1) (by first | exact Nat.le_refl _ | omega) (.int .i64 r.k) (.int .u8 r.p) (.int .u32 r.sa) (.int .i64 r.sb) (.int .u32 r.da) (.int .i64 r.db) (.int .u32 ze) (.int .u16 r.f) (.int .u16 r.t) (.int .u32 r.ia) (.int .u16 r.ip))
          have HR5 := hide r5; have HB5 := hide b5
          clear r5 b5 d7
          generalize (((((((((((w7.setCell ⟨w.heap.size + 1, 0, none⟩ (.int .i64 r.k)).setCell ⟨w.heap.size + 1, 1, none⟩ (.int .u8 r.p)).setCell ⟨w.heap.size + 1, 2, none⟩ (.int .u32 r.sa)).setCell ⟨w.heap.size + 1, 3, none⟩ (.int .i64 r.sb)).setCell ⟨w.heap.size + 1, 4, none⟩ (.int .u32 r.da)).setCell ⟨w.heap.size + 1, 5, none⟩ (.int .i64 r.db)).setCell ⟨w.heap.size + 1, 6, none⟩ (.int .u32 ze)).setCell ⟨w.heap.size + 1, 7, none⟩ (.int .u16 r.f)).setCell ⟨w.heap.size + 1, 8, none⟩ (.int .u16 r.t)).setCell ⟨w.heap.size + 1, 9, none⟩ (.int .u32 r.ia)).setCell ⟨w.heap.size + 1, 10, none⟩ (.int .u16 r.ip)) = W5 at *
          have r5 := HR5.out; have b5 := HB5.out
          clear HR5 HB5
          have xr5_0 : W5.cell? ⟨w.heap.size + 1, 0, none⟩ = some (.int .i64 r.k) := r5.at_ 0
          have xr5_1 : W5.cell? ⟨w.heap.size + 1, 1, none⟩ = some (.int .u8 r.p) := r5.at_ 1
          have xr5_2 : W5.cell? ⟨w.heap.size + 1, 2, none⟩ = some (.int .u32 r.sa) := r5.at_ 2
          have xr5_3 : W5.cell? ⟨w.heap.size + 1, 3, none⟩ = some (.int .i64 r.sb) := r5.at_ 3
          have xr5_4 : W5.cell? ⟨w.heap.size + 1, 4, none⟩ = some (.int .u32 r.da) := r5.at_ 4
          have xr5_5 : W5.cell? ⟨w.heap.size + 1, 5, none⟩ = some (.int .i64 r.db) := r5.at_ 5
          have xr5_6 : W5.cell? ⟨w.heap.size + 1, 6, none⟩ = some (.int .u32 ze) := r5.at_ 6
          have xr5_7 : W5.cell? ⟨w.heap.size + 1, 7, none⟩ = some (.int .u16 r.f) := r5.at_ 7
          have xr5_8 : W5.cell? ⟨w.heap.size + 1, 8, none⟩ = some (.int .u16 r.t) := r5.at_ 8
          have xr5_9 : W5.cell? ⟨w.heap.size + 1, 9, none⟩ = some (.int .u32 r.ia) := r5.at_ 9
          have xr5_10 : W5.cell? ⟨w.heap.size + 1, 10, none⟩ = some (.int .u16 r.ip) := r5.at_ 10
          (try simp only [Exit.inBlock, Exit.then]); refine bodyPost_ret (by simp [results, Try.results58, go_sem, *]; try rfl) rfl ?_
          rw [HE.out.1, HE.out.2]
          exact ⟨rfl, b5⟩
      | false =>
        have HZ2 := hide hz2.symm
        clear hz2
        cases q1 <;> cases q2
        all_goals
          go_wp2_with (first | (go_at_call 37; (with_reducible refine (C1.out _).mono ?_); rintro e2 w2 ⟨rfl, b2⟩; have b2' := bstep (by assumption : Below w4.heap.size w4 _) b2; clear b2) | (go_at_call 37; (with_reducible refine (C2.out _).mono ?_); rintro e2 w2 ⟨rfl, b2⟩; have b2' := bstep (by assumption : Below w4.heap.size w4 _) b2; clear b2))
          all_goals first
            | (exfalso; have hz := HZ2.out; simp only [Bool.and_eq_false_iff, Bool.or_eq_false_iff, Bool.not_eq_false', decide_eq_false_iff_not, decide_eq_true_eq, Bool.true_eq_false, Bool.false_eq_true, or_false, false_or, or_true] at hz; (try rename_i hh); (try simp only [beq_iff_eq, Bool.and_eq_true] at hh); omega)
            | (go_roundg (n - (kk + 1))
               case measure => omega
               case rel =>
                refine ⟨kk + 1, by omega, by omega, by go_num, (show Aside _ from bstep BW'.out.out (bstep L5.out (by with_reducible assumption))), (show Aside _ from fun j hj hl => ?_)⟩
                by_cases e : j = kk
                · subst e
                  rw [← HC.out]; exact HZ.out.symm
                · exact A'.out.out j (by omega) hl)
    · have hltz : ¬ (kk : Int) < (n : Int) := by omega
      have : kk = n := by omega
      subst this
      have fz : ∀ W' i, Below wr.heap.size wr W' → World.frozen? W' ⟨w.heap.size + 1, i, none⟩ = false := fun W' i h => Cells.free (Cells.below h D1'.out) i
      go_wp2_with fail
      have d2 := D1'.out; have l2 := bstep L0.out BW.out
      have hres : r1 = zeroR ∧ q = false := by
        have hh := firstR_miss (p := srcP p si di) (l := l) (fun j hl => AA.out j (by rw [HN.out]; exact hl) hl)
        rw [H1.out, HQ.out, hh.1, hh.2]
        exact ⟨rfl, rfl⟩
      have HE := hide hres
      clear hres qe0_0 qe0_1 qe0_2 qe0_3 qe0_4 qe1_0 qe1_1 qe1_2 qe1_3 qe1_4 qe1_5 qe1_6 qe1_7 qe1_8 qe1_9 qe1_10 qeB_0 qeB_1 qeB_2 qeB_3 fz bb D0 D1 E0 L0 HB HR HQ H1 HN BW AA D1' D0' EB CE OK HS HD
      have r5 := (Cells.put11 d2 (.int .i64 0) (.int .u8 0) (.int .u32 0) (.int .i64 0) (.int .u32 0) (.int .i64 0) (.int .u32 0) (.int .u16 0) (.int .u16 0) (.int .u32 0) (.int .u16 0))
      have b5 := (Below.put11 l2 (b := w.heap.size + 1) (by first | exact Nat.le_refl _ | omega) (.int .i64 0) (.int .u8 0) (.int .u32 0) (.int .i64 0) (.int .u32 0) (.int .i64 0) (.int .u32 0) (.int .u16 0) (.int .u16 0) (.int .u32 0) (.int .u16 0))
      have HR5 := hide r5; have HB5 := hide b5
      clear r5 b5 d2
      generalize (((((((((((wr.setCell ⟨w.heap.size + 1, 0, none⟩ (.int .i64 0)).setCell ⟨w.heap.size + 1, 1, none⟩ (.int .u8 0)).setCell ⟨w.heap.size + 1, 2, none⟩ (.int .u32 0)).setCell ⟨w.heap.size + 1, 3, none⟩ (.int .i64 0)).setCell ⟨w.heap.size + 1, 4, none⟩ (.int .u32 0)).setCell ⟨w.heap.size + 1, 5, none⟩ (.int .i64 0)).setCell ⟨w.heap.size + 1, 6, none⟩ (.int .u32 0)).setCell ⟨w.heap.size + 1, 7, none⟩ (.int .u16 0)).setCell ⟨w.heap.size + 1, 8, none⟩ (.int .u16 0)).setCell ⟨w.heap.size + 1, 9, none⟩ (.int .u32 0)).setCell ⟨w.heap.size + 1, 10, none⟩ (.int .u16 0)) = W5 at *
      have r5 := HR5.out; have b5 := HB5.out
      clear HR5 HB5
      have xr5_0 : W5.cell? ⟨w.heap.size + 1, 0, none⟩ = some (.int .i64 0) := r5.at_ 0
      have xr5_1 : W5.cell? ⟨w.heap.size + 1, 1, none⟩ = some (.int .u8 0) := r5.at_ 1
      have xr5_2 : W5.cell? ⟨w.heap.size + 1, 2, none⟩ = some (.int .u32 0) := r5.at_ 2
      have xr5_3 : W5.cell? ⟨w.heap.size + 1, 3, none⟩ = some (.int .i64 0) := r5.at_ 3
      have xr5_4 : W5.cell? ⟨w.heap.size + 1, 4, none⟩ = some (.int .u32 0) := r5.at_ 4
      have xr5_5 : W5.cell? ⟨w.heap.size + 1, 5, none⟩ = some (.int .i64 0) := r5.at_ 5
      have xr5_6 : W5.cell? ⟨w.heap.size + 1, 6, none⟩ = some (.int .u32 0) := r5.at_ 6
      have xr5_7 : W5.cell? ⟨w.heap.size + 1, 7, none⟩ = some (.int .u16 0) := r5.at_ 7
      have xr5_8 : W5.cell? ⟨w.heap.size + 1, 8, none⟩ = some (.int .u16 0) := r5.at_ 8
      have xr5_9 : W5.cell? ⟨w.heap.size + 1, 9, none⟩ = some (.int .u32 0) := r5.at_ 9
      have xr5_10 : W5.cell? ⟨w.heap.size + 1, 10, none⟩ = some (.int .u16 0) := r5.at_ 10
      (try simp only [Exit.inBlock, Exit.then]); refine bodyPost_ret (by simp [results, Try.results58, go_sem, *]; try rfl) rfl ?_
      rw [HE.out.1, HE.out.2]
      exact ⟨rfl, b5⟩
end Go.Proofs.Ytbboajhdijabbaa
