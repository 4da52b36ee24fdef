/- rules: the document's Outer (porterref11). -/
import Derived.Test.YtbboajhdijabbaaRdoc2
set_option linter.unusedVariables false
set_option linter.unusedSimpArgs false
namespace Go.Proofs.Ytbboajhdijabbaa
open Go.RowKit Go.Lib
attribute [local go_sem] Oper.semAt_some

set_option maxHeartbeats 4000000 in
set_option maxRecDepth 100000 in
theorem d_Outer (w : World) (B : Nat) (o ip b : Int) (v : Value) (l : List Rule) (a : Int) (h : DS w B o ip b l v) (hl : l.length ≤ 1000) :
    Calls Try.prog 19 #[.pointer (some ⟨B, 0, none⟩), .int .u32 a] w (Ret (.bool (outR o l a)) w) := by
  obtain ⟨A, c, hv, hrow⟩ := h.rows
  have hB := h.tbl
  obtain ⟨q, hq⟩ : ∃ q, q = outR o l a := ⟨_, rfl⟩
  rw [← hq]
  unfold outR at hq
  obtain ⟨n, hn⟩ : ∃ n, n = l.length := ⟨_, rfl⟩
  rw [hv, ← hn] at hB
  have ce := fun W r (hW : Below w.heap.size w W) => d_ext W B o ip b _ r (Doc.below hB hW)
  have hn63 : (n : Int) ≤ 1000 := by omega
  obtain ⟨z, hz⟩ : ∃ z, (a == o) = z := ⟨_, rfl⟩
  rw [show decide (a = o) = z from hz] at hq
  unfold Rule.cells at *
  have qhB_0 : ∀ W', Below w.heap.size w W' → World.cell? W' ⟨B, 0, none⟩ = some (.int .u32 o) := fun W' h => Cells.at_ (Cells.below h hB) 0
  have qhB_1 : ∀ W', Below w.heap.size w W' → World.cell? W' ⟨B, 1, none⟩ = some (.int .u32 ip) := fun W' h => Cells.at_ (Cells.below h hB) 1
  have qhB_2 : ∀ W', Below w.heap.size w W' → World.cell? W' ⟨B, 2, none⟩ = some (.int .i64 b) := fun W' h => Cells.at_ (Cells.below h hB) 2
  have qhB_3 : ∀ W', Below w.heap.size w W' → World.cell? W' ⟨B, 3, none⟩ = some (.slice A n c) := fun W' h => Cells.at_ (Cells.below h hB) 3
  have HN := hide hn; have HB := hide hB; have HR := hide hrow; have HQ := hide hq; have CE := hide ce
  clear h hv hrow hB hq hn hl ce
  go_enter Try.func19, Try.ntmps19
  have bb : Below w.heap.size w w := Below.refl _ _
  cases z with
  | true =>
    go_wp2_with fail
    go_ret
    exact ⟨ret_bool (by rw [HQ.out]; rfl), bb⟩
  | false =>
    go_wp2_with fail
    clear bb qhB_0 qhB_1 qhB_2 qhB_3
    go_loopg [5] n (fun gg sj wr => ∃ kk : Nat, kk ≤ n ∧ n - kk ≤ gg ∧ sj = .int .i64 kk ∧ Aside (Below w.heap.size w wr) ∧ Aside (∀ j (hj : j < kk) (hl : j < l.length), (ouP o a) l[j] = false))
    case atStart => exact ⟨0, Nat.zero_le _, by omega, rfl, Below.refl _ w, fun j hj => absurd hj (Nat.not_lt_zero _)⟩
    case round =>
      obtain ⟨kk, hkk, hg, rfl, BW, AA⟩ := hrel
      have eB := Cells.below BW.out HB.out
      have qeB_0 : ∀ W', Below wr.heap.size wr W' → World.cell? W' ⟨B, 0, none⟩ = some (.int .u32 o) := fun W' h => Cells.at_ (Cells.below h eB) 0
      have qeB_1 : ∀ W', Below wr.heap.size wr W' → World.cell? W' ⟨B, 1, none⟩ = some (.int .u32 ip) := fun W' h => Cells.at_ (Cells.below h eB) 1
      have qeB_2 : ∀ W', Below wr.heap.size wr W' → World.cell? W' ⟨B, 2, none⟩ = some (.int .i64 b) := fun W' h => Cells.at_ (Cells.below h eB) 2
      have qeB_3 : ∀ W', Below wr.heap.size wr W' → World.cell? W' ⟨B, 3, none⟩ = some (.slice A n c) := fun W' h => Cells.at_ (Cells.below h eB) 3
      have bb : Below wr.heap.size wr wr := Below.refl _ _
      clear eB
      by_cases hlt : kk < n
      · have hltz : (kk : Int) < (n : Int) := by omega
        have hl : kk < l.length := by have := HN.out; omega
        obtain ⟨g, rfl, hg0, hrow⟩ := HR.out (by omega)
        have hcell : ∀ i u, i < 11 → (l[kk]).cells.toList[i]? = some u → ∀ W', Below wr.heap.size wr W' → World.cell? W' ⟨g, kk * 11 + i, none⟩ = some u := fun i u hi hu W' hW => by
          rw [(bstep BW.out hW).cell (p := ⟨g, kk * 11 + i, none⟩) hg0]
          exact hrow kk hl i u hi hu
        obtain ⟨r, hr⟩ : ∃ r, r = l[kk] := ⟨_, rfl⟩
        rw [← hr] at hcell
        have z0 : ∀ W', Below wr.heap.size wr W' → World.cell? W' ⟨g, kk * 11, none⟩ = some (.int .i64 r.k) := hcell 0 _ (by omega) rfl
        have z1 : ∀ W', Below wr.heap.size wr W' → World.cell? W' ⟨g, kk * 11 + 1, none⟩ = some (.int .u8 r.p) := hcell 1 _ (by omega) rfl
        have z2 : ∀ W', Below wr.heap.size wr W' → World.cell? W' ⟨g, kk * 11 + 2, none⟩ = some (.int .u32 r.sa) := hcell 2 _ (by omega) rfl
        have z3 : ∀ W', Below wr.heap.size wr W' → World.cell? W' ⟨g, kk * 11 + 3, none⟩ = some (.int .i64 r.sb) := hcell 3 _ (by omega) rfl
        have z4 : ∀ W', Below wr.heap.size wr W' → World.cell? W' ⟨g, kk * 11 + 4, none⟩ = some (.int .u32 r.da) := hcell 4 _ (by omega) rfl
        have z5 : ∀ W', Below wr.heap.size wr W' → World.cell? W' ⟨g, kk * 11 + 5, none⟩ = some (.int .i64 r.db) := hcell 5 _ (by omega) rfl
        have z6 : ∀ W', Below wr.heap.size wr W' → World.cell? W' ⟨g, kk * 11 + 6, none⟩ = some (.int .u32 r.e) := hcell 6 _ (by omega) rfl
        have z7 : ∀ W', Below wr.heap.size wr W' → World.cell? W' ⟨g, kk * 11 + 7, none⟩ = some (.int .u16 r.f) := hcell 7 _ (by omega) rfl
        have z8 : ∀ W', Below wr.heap.size wr W' → World.cell? W' ⟨g, kk * 11 + 8, none⟩ = some (.int .u16 r.t) := hcell 8 _ (by omega) rfl
        have z9 : ∀ W', Below wr.heap.size wr W' → World.cell? W' ⟨g, kk * 11 + 9, none⟩ = some (.int .u32 r.ia) := hcell 9 _ (by omega) rfl
        have z10 : ∀ W', Below wr.heap.size wr W' → World.cell? W' ⟨g, kk * 11 + 10, none⟩ = some (.int .u16 r.ip) := hcell 10 _ (by omega) rfl
        have c3 := fun W (hW : Below w.heap.size w W) => CE.out W r hW
        obtain ⟨z2, hz2⟩ : ∃ z2, z2 = ouP o a r := ⟨_, rfl⟩
        have HZ := hide hz2
        unfold ouP at hz2
        generalize (wholeR o r).e = ze at *
        have C3 := hide c3; have BW' := hide BW; have A' := hide AA; have HC := hide hr
        clear hcell hr hrow hg0 BW AA c3
        cases z2 with
        | true =>
          have y : (ze == a) = true := hz2.symm
          clear hz2
          go_wp2_with (go_at_call 49; (with_reducible refine (C3.out _ (bstep BW'.out.out (by assumption))).mono ?_); rintro e2 w6 ⟨rfl, b2⟩; have b6 := bstep (by assumption : Below wr.heap.size wr _) b2; clear b2)
          go_ret
          refine ⟨ret_bool ?_, bstep BW'.out.out b6⟩
          rw [HQ.out, Bool.false_or, show l.any (ouP o a) = true from List.any_eq_true.2 ⟨l[kk], List.getElem_mem hl, by rw [← HC.out]; exact HZ.out.symm⟩]
        | false =>
          have y : (ze == a) = false := hz2.symm
          clear hz2
          go_wp2_with (go_at_call 49; (with_reducible refine (C3.out _ (bstep BW'.out.out (by assumption))).mono ?_); rintro e2 w6 ⟨rfl, b2⟩; have b6 := bstep (by assumption : Below wr.heap.size wr _) b2; clear b2)
          go_roundg (n - (kk + 1))
          case measure => omega
          case rel =>
            refine ⟨kk + 1, by omega, by omega, by go_num, (show Aside _ from bstep BW'.out.out b6), (show Aside _ from fun j hj hl => ?_)⟩
            by_cases e : j = kk
            · subst e
              rw [← HC.out]; exact HZ.out.symm
            · exact A'.out.out j (by omega) hl
      · have hltz : ¬ (kk : Int) < (n : Int) := by omega
        have : kk = n := by omega
        subst this
        go_wp2_with fail
        go_ret
        refine ⟨ret_bool ?_, BW.out⟩
        rw [HQ.out, Bool.false_or, (firstR_miss (p := ouP o a) (l := l) (fun j hl => AA.out j (by rw [HN.out]; exact hl) hl)).2]
end Go.Proofs.Ytbboajhdijabbaa
