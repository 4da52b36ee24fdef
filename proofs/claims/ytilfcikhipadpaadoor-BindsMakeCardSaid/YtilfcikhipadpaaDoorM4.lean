/- Several texts of this claim, one behind the other. -/
import Derived.Test.YtilfcikhipadpaaDoorM3
import Derived.Deep.LoopGhost
import Derived.Shelf.RegionOpenPlain

section
/- rules: Contains, source, Check; the document's Inner, May, Check (porterref11). -/
set_option linter.unusedVariables false
set_option linter.unusedSimpArgs false
namespace Go.Proofs.YtilfcikhipadpaaDoor
open Go.RowKit
attribute [local go_sem] Oper.semAt_some

/-- is a number among four that lie in a row -/
theorem Contains4 (x : Int) (w : World) (B c : Nat) (T : TypeId) (h : Cells w B #[.int .u8 0, .int .u8 1, .int .u8 6, .int .u8 17] T) :
    Calls Tryd.prog 53 #[.slice (some ⟨B, 0, none⟩) 4 c, .int .u8 x] w (Ret (.bool (decide (x = 0) || decide (x = 1) || decide (x = 6) || decide (x = 17))) w) := by
  obtain ⟨iv, hiv⟩ : ∃ iv : Int, iv = (if x = 0 then 0 else if x = 1 then 1 else if x = 6 then 2 else if x = 17 then 3 else -1) := ⟨_, rfl⟩
  have HI := hide hiv
  clear hiv
  have hx : Calls Tryd.prog 57 #[.slice (some ⟨B, 0, none⟩) 4 c, .int .u8 x] w (Ret (.int .i64 iv) w) := by
    have i0 : w.cell? ⟨B, 0, none⟩ = some (.int .u8 0) := Cells.at_ h 0
    have i1 : w.cell? ⟨B, 1, none⟩ = some (.int .u8 1) := Cells.at_ h 1
    have i2 : w.cell? ⟨B, 2, none⟩ = some (.int .u8 6) := Cells.at_ h 2
    have i3 : w.cell? ⟨B, 3, none⟩ = some (.int .u8 17) := Cells.at_ h 3
    clear h
    go_enter Tryd.func57, Tryd.ntmps57
    go_wp2_with fail
    go_loopw [8] (fun i wr => ∃ j : Nat, j ≤ 4 ∧ i = .int .i64 j ∧ wr = w ∧ (0 < j → x ≠ 0) ∧ (1 < j → x ≠ 1) ∧ (2 < j → x ≠ 6) ∧ (3 < j → x ≠ 17)) (fun i _ => (4 - intOf i).toNat)
    case atStart => exact ⟨0, by omega, rfl, rfl, by omega, by omega, by omega, by omega⟩
    case round =>
      obtain ⟨j, hj, rfl, rfl, n0, n1, n2, n3⟩ := hrel
      have hjj : j = 0 ∨ j = 1 ∨ j = 2 ∨ j = 3 ∨ j = 4 := by omega
      rcases hjj with rfl | rfl | rfl | rfl | rfl
      · clear n0 n1 n2 n3 hj
        by_cases hx : x = 0
        · have q1 : (x == 0) = true := by simpa using hx
          have HXX := hide hx
          clear hx
          go_wp2_with fail
          go_ret
          exact ⟨by rw [HI.out, HXX.out]; rfl, Below.refl _ _⟩
        · have q1 : (x == 0) = false := by simpa using hx
          have HXX := hide hx
          clear hx
          go_wp2_with fail
          go_roundw
          case rel => exact ⟨1, by omega, by go_num, trivial, fun _ => HXX.out, fun h => absurd h (by omega), fun h => absurd h (by omega), fun h => absurd h (by omega)⟩
          case measure => simp [intOf]
      · have N0 := n0 (by omega); clear n0 n1 n2 n3 hj
        by_cases hx : x = 1
        · have q1 : (x == 1) = true := by simpa using hx
          have HXX := hide hx; have NN0 := hide N0
          clear hx N0
          go_wp2_with fail
          go_ret
          exact ⟨by rw [HI.out, HXX.out]; rfl, Below.refl _ _⟩
        · have q1 : (x == 1) = false := by simpa using hx
          have HXX := hide hx; have NN0 := hide N0
          clear hx N0
          go_wp2_with fail
          go_roundw
          case rel => exact ⟨2, by omega, by go_num, trivial, fun _ => NN0.out, fun _ => HXX.out, fun h => absurd h (by omega), fun h => absurd h (by omega)⟩
          case measure => simp [intOf]
      · have N0 := n0 (by omega); have N1 := n1 (by omega); clear n0 n1 n2 n3 hj
        by_cases hx : x = 6
        · have q1 : (x == 6) = true := by simpa using hx
          have HXX := hide hx; have NN0 := hide N0; have NN1 := hide N1
          clear hx N0 N1
          go_wp2_with fail
          go_ret
          exact ⟨by rw [HI.out, HXX.out]; rfl, Below.refl _ _⟩
        · have q1 : (x == 6) = false := by simpa using hx
          have HXX := hide hx; have NN0 := hide N0; have NN1 := hide N1
          clear hx N0 N1
          go_wp2_with fail
          go_roundw
          case rel => exact ⟨3, by omega, by go_num, trivial, fun _ => NN0.out, fun _ => NN1.out, fun _ => HXX.out, fun h => absurd h (by omega)⟩
          case measure => simp [intOf]
      · have N0 := n0 (by omega); have N1 := n1 (by omega); have N2 := n2 (by omega); clear n0 n1 n2 n3 hj
        by_cases hx : x = 17
        · have q1 : (x == 17) = true := by simpa using hx
          have HXX := hide hx; have NN0 := hide N0; have NN1 := hide N1; have NN2 := hide N2
          clear hx N0 N1 N2
          go_wp2_with fail
          go_ret
          exact ⟨by rw [HI.out, HXX.out]; rfl, Below.refl _ _⟩
        · have q1 : (x == 17) = false := by simpa using hx
          have HXX := hide hx; have NN0 := hide N0; have NN1 := hide N1; have NN2 := hide N2
          clear hx N0 N1 N2
          go_wp2_with fail
          go_roundw
          case rel => exact ⟨4, by omega, by go_num, trivial, fun _ => NN0.out, fun _ => NN1.out, fun _ => NN2.out, fun _ => HXX.out⟩
          case measure => simp [intOf]
      · have N0 := n0 (by omega); have N1 := n1 (by omega); have N2 := n2 (by omega); have N3 := n3 (by omega)
        clear n0 n1 n2 n3 hj
        have NN := hide N0; have NN1 := hide N1; have NN2 := hide N2; have NN3 := hide N3
        clear N0 N1 N2 N3
        go_wp2_with fail
        go_ret
        exact ⟨by rw [HI.out, if_neg NN.out, if_neg NN1.out, if_neg NN2.out, if_neg NN3.out]; rfl, Below.refl _ _⟩
  have HX := hide hx
  clear hx h
  go_enter Tryd.func53, Tryd.ntmps53
  go_wp2_with fail
  (with_reducible refine (HX.out).mono ?_)
  rintro e w2 ⟨rfl, b2⟩
  go_wp2_with fail
  go_ret
  refine ⟨ret_bool ?_, b2⟩
  rw [HI.out]
  by_cases a0 : x = 0
  · simp [a0]
  by_cases a1 : x = 1
  · simp [a1]
  by_cases a2 : x = 6
  · simp [a2]
  by_cases a3 : x = 17
  · simp [a3]
  · simp [a0, a1, a2, a3]

set_option maxRecDepth 100000 in
set_option maxHeartbeats 4000000 in
theorem t_source (w : World) (B : Nat) (k p sa sb da db e f t ia ipp : Int) (hr : (Rule.mk k p sa sb da db e f t ia ipp).Ok) :
    Calls Tryd.prog 43 #[.pointer (some ⟨B, 0, none⟩), .agg #[.int .i64 k, .int .u8 p, .int .u32 sa, .int .i64 sb, .int .u32 da, .int .i64 db, .int .u32 e, .int .u16 f, .int .u16 t, .int .u32 ia, .int .u16 ipp]] w (Ret (.bool (srOk (Rule.mk k p sa sb da db e f t ia ipp))) w) := by
  unfold Rule.Ok at hr
  simp only at hr
  obtain ⟨vv, hvv⟩ : ∃ vv, vv = srOk (Rule.mk k p sa sb da db e f t ia ipp) := ⟨_, rfl⟩
  rw [← hvv]
  unfold srOk at hvv
  simp only at hvv
  have c0 := fun W B' c (h : Cells W B' #[.int .u8 0, .int .u8 1, .int .u8 6, .int .u8 17] 5) => Contains4 p W B' c _ h
  have c1 := fun W => addrs_May sa sb W hr.2.1
  have c2 := fun W => addrs_May da db W hr.2.2.1
  obtain ⟨hc, hhc⟩ : ∃ hc, hc = (decide (p = 0) || decide (p = 1) || decide (p = 6) || decide (p = 17)) := ⟨_, rfl⟩
  rw [← hhc] at hvv c0
  generalize mayP sa sb = m1 at *
  generalize mayP da db = m2 at *
  have C0 := hide c0; have C1 := hide c1; have C2 := hide c2; have HR := hide hr; have HV := hide hvv
  clear c0 c1 c2 hr hvv hhc
  go_enter Tryd.func43, Tryd.ntmps43
  have d := Cells.new w #[.int .i64 k, .int .u8 p, .int .u32 sa, .int .i64 sb, .int .u32 da, .int .i64 db, .int .u32 e, .int .u16 f, .int .u16 t, .int .u32 ia, .int .u16 ipp] 77
  have l0 := fresh_below w (.cells #[.int .i64 k, .int .u8 p, .int .u32 sa, .int .i64 sb, .int .u32 da, .int .i64 db, .int .u32 e, .int .u16 f, .int .u16 t, .int .u32 ia, .int .u16 ipp] 77)
  have L0 := hide l0; have D0 := hide d
  clear l0 d
  go_upto_region 1 with fail
  have l0 := L0.out; have d := D0.out
  clear L0 D0
  generalize (w.alloc (.cells #[.int .i64 k, .int .u8 p, .int .u32 sa, .int .i64 sb, .int .u32 da, .int .i64 db, .int .u32 e, .int .u16 f, .int .u16 t, .int .u32 ia, .int .u16 ipp] 77)) = w1 at *
  have qd_0 : ∀ W', Below w1.heap.size w1 W' → World.cell? W' ⟨w.heap.size, 0, none⟩ = some (.int .i64 k) := fun W' h => Cells.at_ (Cells.below h d) 0
  have qd_1 : ∀ W', Below w1.heap.size w1 W' → World.cell? W' ⟨w.heap.size, 1, none⟩ = some (.int .u8 p) := fun W' h => Cells.at_ (Cells.below h d) 1
  have qd_2 : ∀ W', Below w1.heap.size w1 W' → World.cell? W' ⟨w.heap.size, 2, none⟩ = some (.int .u32 sa) := fun W' h => Cells.at_ (Cells.below h d) 2
  have qd_3 : ∀ W', Below w1.heap.size w1 W' → World.cell? W' ⟨w.heap.size, 3, none⟩ = some (.int .i64 sb) := fun W' h => Cells.at_ (Cells.below h d) 3
  have qd_4 : ∀ W', Below w1.heap.size w1 W' → World.cell? W' ⟨w.heap.size, 4, none⟩ = some (.int .u32 da) := fun W' h => Cells.at_ (Cells.below h d) 4
  have qd_5 : ∀ W', Below w1.heap.size w1 W' → World.cell? W' ⟨w.heap.size, 5, none⟩ = some (.int .i64 db) := fun W' h => Cells.at_ (Cells.below h d) 5
  have qd_6 : ∀ W', Below w1.heap.size w1 W' → World.cell? W' ⟨w.heap.size, 6, none⟩ = some (.int .u32 e) := fun W' h => Cells.at_ (Cells.below h d) 6
  have qd_7 : ∀ W', Below w1.heap.size w1 W' → World.cell? W' ⟨w.heap.size, 7, none⟩ = some (.int .u16 f) := fun W' h => Cells.at_ (Cells.below h d) 7
  have qd_8 : ∀ W', Below w1.heap.size w1 W' → World.cell? W' ⟨w.heap.size, 8, none⟩ = some (.int .u16 t) := fun W' h => Cells.at_ (Cells.below h d) 8
  have qd_9 : ∀ W', Below w1.heap.size w1 W' → World.cell? W' ⟨w.heap.size, 9, none⟩ = some (.int .u32 ia) := fun W' h => Cells.at_ (Cells.below h d) 9
  have qd_10 : ∀ W', Below w1.heap.size w1 W' → World.cell? W' ⟨w.heap.size, 10, none⟩ = some (.int .u16 ipp) := fun W' h => Cells.at_ (Cells.below h d) 10
  have bb : Below w1.heap.size w1 w1 := Below.refl _ _
  have bA : ∀ W o, Below w1.heap.size w1 W → Below w1.heap.size w1 (W.alloc o) := fun W o h => bstep h (fresh_below W o)
  have D0 := hide d; have L0 := hide l0
  clear d l0
  go_wp2_with (first | (go_at_call 53; (with_reducible refine (C0.out _ _ _ (Cells.new w1 _ _)).mono ?_); rintro e2 w2 ⟨rfl, b2⟩; have b2' : Below w1.heap.size w1 w2 := bstep (bA _ _ bb) b2; clear b2) | (go_at_call 28; (with_reducible refine (C1.out _).mono ?_); rintro e2 w2 ⟨rfl, b2⟩; have b2' := bstep (by assumption : Below w1.heap.size w1 _) b2; clear b2) | (go_at_call 28; (with_reducible refine (C2.out _).mono ?_); rintro e2 w2 ⟨rfl, b2⟩; have b2' := bstep (by assumption : Below w1.heap.size w1 _) b2; clear b2))
  all_goals
    go_ret
    refine ⟨ret_bool ?_, bstep L0.out (by assumption)⟩
    clear qd_0 qd_1 qd_2 qd_3 qd_4 qd_5 qd_6 qd_7 qd_8 qd_9 qd_10 D0 L0 bb bA C0 C1 C2 HR
    rw [HV.out]
    clear HV
    first | (simp [*]; done) | (simp [*]; omega)
set_option maxRecDepth 100000 in
set_option maxHeartbeats 4000000 in
theorem t_Check_1 (w : World) (B : Nat) (o ip b : Int) (v : Value) (p sa sb da db e f t ia ipp : Int) (h : Tbl w B o ip b v) (hi : 0 ≤ ip ∧ ip ≤ 4294967295) (hr : (Rule.mk 1 p sa sb da db e f t ia ipp).Ok) :
    Calls Tryd.prog 30 #[.pointer (some ⟨B, 0, none⟩), .agg #[.int .i64 1, .int .u8 p, .int .u32 sa, .int .i64 sb, .int .u32 da, .int .i64 db, .int .u32 e, .int .u16 f, .int .u16 t, .int .u32 ia, .int .u16 ipp]] w (Ret (.int .i64 (if (srOk (Rule.mk 1 p sa sb da db e f t ia ipp) && !hasP ip b e) = true then 0 else 2)) w) := by
  obtain ⟨vv, hvv⟩ : ∃ vv : Int, vv = (if (srOk (Rule.mk 1 p sa sb da db e f t ia ipp) && !hasP ip b e) = true then 0 else 2) := ⟨_, rfl⟩
  rw [← hvv]
  have c0 := fun W (h : Below w.heap.size w W) (hw : Tbl w B o ip b v) => t_none W B o ip b v (Tbl.below hw h)
  have c1 := fun W => t_source W B 1 p sa sb da db e f t ia ipp hr
  generalize srOk (Rule.mk 1 p sa sb da db e f t ia ipp) = s1 at *
  have c2 := fun W (h : Below w.heap.size w W) (hw : Tbl w B o ip b v) => t_Inner W B o ip b e v (Tbl.below hw h) hi hr.2.2.2.1
  generalize hasP ip b e = he at *
  have C1 := hide c1; have C2 := hide c2
  clear c1 c2
  have C0 := hide c0; have HH := hide h; have HR := hide hr; have HV := hide hvv
  clear c0 h hr hvv
  go_enter Tryd.func30, Tryd.ntmps30
  have d := Cells.new w #[.int .i64 1, .int .u8 p, .int .u32 sa, .int .i64 sb, .int .u32 da, .int .i64 db, .int .u32 e, .int .u16 f, .int .u16 t, .int .u32 ia, .int .u16 ipp] 77
  have l0 := fresh_below w (.cells #[.int .i64 1, .int .u8 p, .int .u32 sa, .int .i64 sb, .int .u32 da, .int .i64 db, .int .u32 e, .int .u16 f, .int .u16 t, .int .u32 ia, .int .u16 ipp] 77)
  have L0 := hide l0; have D0 := hide d
  clear l0 d
  go_upto_region 1 with fail
  have l0 := L0.out; have d := D0.out
  clear L0 D0
  generalize (w.alloc (.cells #[.int .i64 1, .int .u8 p, .int .u32 sa, .int .i64 sb, .int .u32 da, .int .i64 db, .int .u32 e, .int .u16 f, .int .u16 t, .int .u32 ia, .int .u16 ipp] 77)) = w1 at *
  have qd_0 : ∀ W', Below w1.heap.size w1 W' → World.cell? W' ⟨w.heap.size, 0, none⟩ = some (.int .i64 1) := fun W' h => Cells.at_ (Cells.below h d) 0
  have qd_1 : ∀ W', Below w1.heap.size w1 W' → World.cell? W' ⟨w.heap.size, 1, none⟩ = some (.int .u8 p) := fun W' h => Cells.at_ (Cells.below h d) 1
  have qd_2 : ∀ W', Below w1.heap.size w1 W' → World.cell? W' ⟨w.heap.size, 2, none⟩ = some (.int .u32 sa) := fun W' h => Cells.at_ (Cells.below h d) 2
  have qd_3 : ∀ W', Below w1.heap.size w1 W' → World.cell? W' ⟨w.heap.size, 3, none⟩ = some (.int .i64 sb) := fun W' h => Cells.at_ (Cells.below h d) 3
  have qd_4 : ∀ W', Below w1.heap.size w1 W' → World.cell? W' ⟨w.heap.size, 4, none⟩ = some (.int .u32 da) := fun W' h => Cells.at_ (Cells.below h d) 4
  have qd_5 : ∀ W', Below w1.heap.size w1 W' → World.cell? W' ⟨w.heap.size, 5, none⟩ = some (.int .i64 db) := fun W' h => Cells.at_ (Cells.below h d) 5
  have qd_6 : ∀ W', Below w1.heap.size w1 W' → World.cell? W' ⟨w.heap.size, 6, none⟩ = some (.int .u32 e) := fun W' h => Cells.at_ (Cells.below h d) 6
  have qd_7 : ∀ W', Below w1.heap.size w1 W' → World.cell? W' ⟨w.heap.size, 7, none⟩ = some (.int .u16 f) := fun W' h => Cells.at_ (Cells.below h d) 7
  have qd_8 : ∀ W', Below w1.heap.size w1 W' → World.cell? W' ⟨w.heap.size, 8, none⟩ = some (.int .u16 t) := fun W' h => Cells.at_ (Cells.below h d) 8
  have qd_9 : ∀ W', Below w1.heap.size w1 W' → World.cell? W' ⟨w.heap.size, 9, none⟩ = some (.int .u32 ia) := fun W' h => Cells.at_ (Cells.below h d) 9
  have qd_10 : ∀ W', Below w1.heap.size w1 W' → World.cell? W' ⟨w.heap.size, 10, none⟩ = some (.int .u16 ipp) := fun W' h => Cells.at_ (Cells.below h d) 10
  have bb : Below w1.heap.size w1 w1 := Below.refl _ _
  have bA : ∀ W o, Below w1.heap.size w1 W → Below w1.heap.size w1 (W.alloc o) := fun W o h => bstep h (fresh_below W o)
  have D0 := hide d; have L0 := hide l0
  clear d l0
  go_wp2_with (first | (go_at_call 42; (with_reducible refine (C0.out _ (bstep L0.out (by assumption)) HH.out).mono ?_); rintro e2 w2 ⟨rfl, b2⟩; have b2' := bstep (by assumption : Below w1.heap.size w1 _) b2; clear b2) | (go_at_call 43; (with_reducible refine (C1.out _).mono ?_); rintro e2 w2 ⟨rfl, b2⟩; have b2' := bstep (by assumption : Below w1.heap.size w1 _) b2; clear b2) | (go_at_call 37; (with_reducible refine (C2.out _ (bstep L0.out (by assumption)) HH.out).mono ?_); rintro e2 w2 ⟨rfl, b2⟩; have b2' := bstep (by assumption : Below w1.heap.size w1 _) b2; clear b2))
  all_goals
    go_ret
    refine ⟨ret_int ?_, bstep L0.out (by assumption)⟩
    clear qd_0 qd_1 qd_2 qd_3 qd_4 qd_5 qd_6 qd_7 qd_8 qd_9 qd_10 D0 L0 bb bA C0 HH C1 C2
    first
    | (rw [HV.out]; done)
    | (rw [HV.out]; clear HV; first | (simp [*]; done) | (simp [*]; omega) | (have hr := HR.out; simp [*]; omega) | (have hr := HR.out; simp [*]; rw [Bool.eq_iff_iff]; simp only [Bool.and_eq_true, bne_iff_ne, ne_eq, decide_eq_true_eq]; omega) | (clear K a; have hr := HR.out; clear HR; simp_all; omega) | (have hr := HR.out; clear HR; simp_all; omega) | (have hr := HR.out; clear HR; simp_all; done) | (cases s1 <;> simp_all; done) | (trace_state; fail))

set_option maxRecDepth 100000 in
set_option maxHeartbeats 4000000 in
theorem t_Check_2 (w : World) (B : Nat) (o ip b : Int) (v : Value) (p sa sb da db e f t ia ipp : Int) (h : Tbl w B o ip b v) (hi : 0 ≤ ip ∧ ip ≤ 4294967295) (hr : (Rule.mk 2 p sa sb da db e f t ia ipp).Ok) :
    Calls Tryd.prog 30 #[.pointer (some ⟨B, 0, none⟩), .agg #[.int .i64 2, .int .u8 p, .int .u32 sa, .int .i64 sb, .int .u32 da, .int .i64 db, .int .u32 e, .int .u16 f, .int .u16 t, .int .u32 ia, .int .u16 ipp]] w (Ret (.int .i64 (if (srOk (Rule.mk 2 p sa sb da db e f t ia ipp) && decide (e = 0)) = true then 0 else 2)) w) := by
  obtain ⟨vv, hvv⟩ : ∃ vv : Int, vv = (if (srOk (Rule.mk 2 p sa sb da db e f t ia ipp) && decide (e = 0)) = true then 0 else 2) := ⟨_, rfl⟩
  rw [← hvv]
  have c0 := fun W (h : Below w.heap.size w W) (hw : Tbl w B o ip b v) => t_none W B o ip b v (Tbl.below hw h)
  have c1 := fun W => t_source W B 2 p sa sb da db e f t ia ipp hr
  generalize srOk (Rule.mk 2 p sa sb da db e f t ia ipp) = s1 at *
  have C1 := hide c1
  clear c1
  have C0 := hide c0; have HH := hide h; have HR := hide hr; have HV := hide hvv
  clear c0 h hr hvv
  go_enter Tryd.func30, Tryd.ntmps30
  have d := Cells.new w #[.int .i64 2, .int .u8 p, .int .u32 sa, .int .i64 sb, .int .u32 da, .int .i64 db, .int .u32 e, .int .u16 f, .int .u16 t, .int .u32 ia, .int .u16 ipp] 77
  have l0 := fresh_below w (.cells #[.int .i64 2, .int .u8 p, .int .u32 sa, .int .i64 sb, .int .u32 da, .int .i64 db, .int .u32 e, .int .u16 f, .int .u16 t, .int .u32 ia, .int .u16 ipp] 77)
  have L0 := hide l0; have D0 := hide d
  clear l0 d
  go_upto_region 1 with fail
  have l0 := L0.out; have d := D0.out
  clear L0 D0
  generalize (w.alloc (.cells #[.int .i64 2, .int .u8 p, .int .u32 sa, .int .i64 sb, .int .u32 da, .int .i64 db, .int .u32 e, .int .u16 f, .int .u16 t, .int .u32 ia, .int .u16 ipp] 77)) = w1 at *
  have qd_0 : ∀ W', Below w1.heap.size w1 W' → World.cell? W' ⟨w.heap.size, 0, none⟩ = some (.int .i64 2) := fun W' h => Cells.at_ (Cells.below h d) 0
  have qd_1 : ∀ W', Below w1.heap.size w1 W' → World.cell? W' ⟨w.heap.size, 1, none⟩ = some (.int .u8 p) := fun W' h => Cells.at_ (Cells.below h d) 1
  have qd_2 : ∀ W', Below w1.heap.size w1 W' → World.cell? W' ⟨w.heap.size, 2, none⟩ = some (.int .u32 sa) := fun W' h => Cells.at_ (Cells.below h d) 2
  have qd_3 : ∀ W', Below w1.heap.size w1 W' → World.cell? W' ⟨w.heap.size, 3, none⟩ = some (.int .i64 sb) := fun W' h => Cells.at_ (Cells.below h d) 3
  have qd_4 : ∀ W', Below w1.heap.size w1 W' → World.cell? W' ⟨w.heap.size, 4, none⟩ = some (.int .u32 da) := fun W' h => Cells.at_ (Cells.below h d) 4
  have qd_5 : ∀ W', Below w1.heap.size w1 W' → World.cell? W' ⟨w.heap.size, 5, none⟩ = some (.int .i64 db) := fun W' h => Cells.at_ (Cells.below h d) 5
  have qd_6 : ∀ W', Below w1.heap.size w1 W' → World.cell? W' ⟨w.heap.size, 6, none⟩ = some (.int .u32 e) := fun W' h => Cells.at_ (Cells.below h d) 6
  have qd_7 : ∀ W', Below w1.heap.size w1 W' → World.cell? W' ⟨w.heap.size, 7, none⟩ = some (.int .u16 f) := fun W' h => Cells.at_ (Cells.below h d) 7
  have qd_8 : ∀ W', Below w1.heap.size w1 W' → World.cell? W' ⟨w.heap.size, 8, none⟩ = some (.int .u16 t) := fun W' h => Cells.at_ (Cells.below h d) 8
  have qd_9 : ∀ W', Below w1.heap.size w1 W' → World.cell? W' ⟨w.heap.size, 9, none⟩ = some (.int .u32 ia) := fun W' h => Cells.at_ (Cells.below h d) 9
  have qd_10 : ∀ W', Below w1.heap.size w1 W' → World.cell? W' ⟨w.heap.size, 10, none⟩ = some (.int .u16 ipp) := fun W' h => Cells.at_ (Cells.below h d) 10
  have bb : Below w1.heap.size w1 w1 := Below.refl _ _
  have bA : ∀ W o, Below w1.heap.size w1 W → Below w1.heap.size w1 (W.alloc o) := fun W o h => bstep h (fresh_below W o)
  have D0 := hide d; have L0 := hide l0
  clear d l0
  go_wp2_with (first | (go_at_call 42; (with_reducible refine (C0.out _ (bstep L0.out (by assumption)) HH.out).mono ?_); rintro e2 w2 ⟨rfl, b2⟩; have b2' := bstep (by assumption : Below w1.heap.size w1 _) b2; clear b2) | (go_at_call 43; (with_reducible refine (C1.out _).mono ?_); rintro e2 w2 ⟨rfl, b2⟩; have b2' := bstep (by assumption : Below w1.heap.size w1 _) b2; clear b2))
  all_goals
    go_ret
    refine ⟨ret_int ?_, bstep L0.out (by assumption)⟩
    clear qd_0 qd_1 qd_2 qd_3 qd_4 qd_5 qd_6 qd_7 qd_8 qd_9 qd_10 D0 L0 bb bA C0 HH C1
    first
    | (rw [HV.out]; done)
    | (rw [HV.out]; clear HV; first | (simp [*]; done) | (simp [*]; omega) | (have hr := HR.out; simp [*]; omega) | (have hr := HR.out; simp [*]; rw [Bool.eq_iff_iff]; simp only [Bool.and_eq_true, bne_iff_ne, ne_eq, decide_eq_true_eq]; omega) | (clear K a; have hr := HR.out; clear HR; simp_all; omega) | (have hr := HR.out; clear HR; simp_all; omega) | (have hr := HR.out; clear HR; simp_all; done) | (cases s1 <;> simp_all; done) | (trace_state; fail))

set_option maxRecDepth 100000 in
set_option maxHeartbeats 4000000 in
theorem t_Check_3 (w : World) (B : Nat) (o ip b : Int) (v : Value) (p sa sb da db e f t ia ipp : Int) (h : Tbl w B o ip b v) (hi : 0 ≤ ip ∧ ip ≤ 4294967295) (hr : (Rule.mk 3 p sa sb da db e f t ia ipp).Ok) :
    Calls Tryd.prog 30 #[.pointer (some ⟨B, 0, none⟩), .agg #[.int .i64 3, .int .u8 p, .int .u32 sa, .int .i64 sb, .int .u32 da, .int .i64 db, .int .u32 e, .int .u16 f, .int .u16 t, .int .u32 ia, .int .u16 ipp]] w (Ret (.int .i64 (if (stOk ip b (Rule.mk 3 p sa sb da db e f t ia ipp)) = true then 0 else 2)) w) := by
  obtain ⟨vv, hvv⟩ : ∃ vv : Int, vv = (if (stOk ip b (Rule.mk 3 p sa sb da db e f t ia ipp)) = true then 0 else 2) := ⟨_, rfl⟩
  rw [← hvv]
  have c0 := fun W (h : Below w.heap.size w W) (hw : Tbl w B o ip b v) => t_none W B o ip b v (Tbl.below hw h)
  have c1 := fun W (h : Below w.heap.size w W) (hw : Tbl w B o ip b v) => t_static W B o ip b v (Rule.mk 3 p sa sb da db e f t ia ipp) (Tbl.below hw h) hi hr
  unfold Rule.cells at c1
  simp only at c1
  generalize stOk ip b (Rule.mk 3 p sa sb da db e f t ia ipp) = s1 at *
  have C1 := hide c1
  clear c1
  have C0 := hide c0; have HH := hide h; have HR := hide hr; have HV := hide hvv
  clear c0 h hr hvv
  go_enter Tryd.func30, Tryd.ntmps30
  have d := Cells.new w #[.int .i64 3, .int .u8 p, .int .u32 sa, .int .i64 sb, .int .u32 da, .int .i64 db, .int .u32 e, .int .u16 f, .int .u16 t, .int .u32 ia, .int .u16 ipp] 77
  have l0 := fresh_below w (.cells #[.int .i64 3, .int .u8 p, .int .u32 sa, .int .i64 sb, .int .u32 da, .int .i64 db, .int .u32 e, .int .u16 f, .int .u16 t, .int .u32 ia, .int .u16 ipp] 77)
  have L0 := hide l0; have D0 := hide d
  clear l0 d
  go_upto_region 1 with fail
  have l0 := L0.out; have d := D0.out
  clear L0 D0
  generalize (w.alloc (.cells #[.int .i64 3, .int .u8 p, .int .u32 sa, .int .i64 sb, .int .u32 da, .int .i64 db, .int .u32 e, .int .u16 f, .int .u16 t, .int .u32 ia, .int .u16 ipp] 77)) = w1 at *
  have qd_0 : ∀ W', Below w1.heap.size w1 W' → World.cell? W' ⟨w.heap.size, 0, none⟩ = some (.int .i64 3) := fun W' h => Cells.at_ (Cells.below h d) 0
  have qd_1 : ∀ W', Below w1.heap.size w1 W' → World.cell? W' ⟨w.heap.size, 1, none⟩ = some (.int .u8 p) := fun W' h => Cells.at_ (Cells.below h d) 1
  have qd_2 : ∀ W', Below w1.heap.size w1 W' → World.cell? W' ⟨w.heap.size, 2, none⟩ = some (.int .u32 sa) := fun W' h => Cells.at_ (Cells.below h d) 2
  have qd_3 : ∀ W', Below w1.heap.size w1 W' → World.cell? W' ⟨w.heap.size, 3, none⟩ = some (.int .i64 sb) := fun W' h => Cells.at_ (Cells.below h d) 3
  have qd_4 : ∀ W', Below w1.heap.size w1 W' → World.cell? W' ⟨w.heap.size, 4, none⟩ = some (.int .u32 da) := fun W' h => Cells.at_ (Cells.below h d) 4
  have qd_5 : ∀ W', Below w1.heap.size w1 W' → World.cell? W' ⟨w.heap.size, 5, none⟩ = some (.int .i64 db) := fun W' h => Cells.at_ (Cells.below h d) 5
  have qd_6 : ∀ W', Below w1.heap.size w1 W' → World.cell? W' ⟨w.heap.size, 6, none⟩ = some (.int .u32 e) := fun W' h => Cells.at_ (Cells.below h d) 6
  have qd_7 : ∀ W', Below w1.heap.size w1 W' → World.cell? W' ⟨w.heap.size, 7, none⟩ = some (.int .u16 f) := fun W' h => Cells.at_ (Cells.below h d) 7
  have qd_8 : ∀ W', Below w1.heap.size w1 W' → World.cell? W' ⟨w.heap.size, 8, none⟩ = some (.int .u16 t) := fun W' h => Cells.at_ (Cells.below h d) 8
  have qd_9 : ∀ W', Below w1.heap.size w1 W' → World.cell? W' ⟨w.heap.size, 9, none⟩ = some (.int .u32 ia) := fun W' h => Cells.at_ (Cells.below h d) 9
  have qd_10 : ∀ W', Below w1.heap.size w1 W' → World.cell? W' ⟨w.heap.size, 10, none⟩ = some (.int .u16 ipp) := fun W' h => Cells.at_ (Cells.below h d) 10
  have bb : Below w1.heap.size w1 w1 := Below.refl _ _
  have bA : ∀ W o, Below w1.heap.size w1 W → Below w1.heap.size w1 (W.alloc o) := fun W o h => bstep h (fresh_below W o)
  have D0 := hide d; have L0 := hide l0
  clear d l0
  go_wp2_with (first | (go_at_call 42; (with_reducible refine (C0.out _ (bstep L0.out (by assumption)) HH.out).mono ?_); rintro e2 w2 ⟨rfl, b2⟩; have b2' := bstep (by assumption : Below w1.heap.size w1 _) b2; clear b2) | (go_at_call 44; (with_reducible refine (C1.out _ (bstep L0.out (by assumption)) HH.out).mono ?_); rintro e2 w2 ⟨rfl, b2⟩; have b2' := bstep (by assumption : Below w1.heap.size w1 _) b2; clear b2))
  all_goals
    go_ret
    refine ⟨ret_int ?_, bstep L0.out (by assumption)⟩
    clear qd_0 qd_1 qd_2 qd_3 qd_4 qd_5 qd_6 qd_7 qd_8 qd_9 qd_10 D0 L0 bb bA C0 HH C1
    first
    | (rw [HV.out]; done)
    | (rw [HV.out]; clear HV; first | (simp [*]; done) | (simp [*]; omega) | (have hr := HR.out; simp [*]; omega) | (have hr := HR.out; simp [*]; rw [Bool.eq_iff_iff]; simp only [Bool.and_eq_true, bne_iff_ne, ne_eq, decide_eq_true_eq]; omega) | (clear K a; have hr := HR.out; clear HR; simp_all; omega) | (have hr := HR.out; clear HR; simp_all; omega) | (have hr := HR.out; clear HR; simp_all; done) | (cases s1 <;> simp_all; done) | (trace_state; fail))

set_option maxRecDepth 100000 in
set_option maxHeartbeats 4000000 in
theorem t_Check_no (w : World) (B : Nat) (o ip b : Int) (v : Value) (k p sa sb da db e f t ia ipp : Int) (h : Tbl w B o ip b v) (hi : 0 ≤ ip ∧ ip ≤ 4294967295) (hr : (Rule.mk k p sa sb da db e f t ia ipp).Ok) (k1 : k ≠ 1) (k2 : k ≠ 2) (k3 : k ≠ 3) :
    Calls Tryd.prog 30 #[.pointer (some ⟨B, 0, none⟩), .agg #[.int .i64 k, .int .u8 p, .int .u32 sa, .int .i64 sb, .int .u32 da, .int .i64 db, .int .u32 e, .int .u16 f, .int .u16 t, .int .u32 ia, .int .u16 ipp]] w (Ret (.int .i64 (if (false) = true then 0 else 2)) w) := by
  obtain ⟨vv, hvv⟩ : ∃ vv : Int, vv = (if (false) = true then 0 else 2) := ⟨_, rfl⟩
  rw [← hvv]
  have c0 := fun W (h : Below w.heap.size w W) (hw : Tbl w B o ip b v) => t_none W B o ip b v (Tbl.below hw h)
  have q1 : (k == 1) = false := by simpa using k1
  have q2 : (k == 2) = false := by simpa using k2
  have q3 : (k == 3) = false := by simpa using k3
  clear k1 k2 k3
  have C0 := hide c0; have HH := hide h; have HR := hide hr; have HV := hide hvv
  clear c0 h hr hvv
  go_enter Tryd.func30, Tryd.ntmps30
  have d := Cells.new w #[.int .i64 k, .int .u8 p, .int .u32 sa, .int .i64 sb, .int .u32 da, .int .i64 db, .int .u32 e, .int .u16 f, .int .u16 t, .int .u32 ia, .int .u16 ipp] 77
  have l0 := fresh_below w (.cells #[.int .i64 k, .int .u8 p, .int .u32 sa, .int .i64 sb, .int .u32 da, .int .i64 db, .int .u32 e, .int .u16 f, .int .u16 t, .int .u32 ia, .int .u16 ipp] 77)
  have L0 := hide l0; have D0 := hide d
  clear l0 d
  go_upto_region 1 with fail
  have l0 := L0.out; have d := D0.out
  clear L0 D0
  generalize (w.alloc (.cells #[.int .i64 k, .int .u8 p, .int .u32 sa, .int .i64 sb, .int .u32 da, .int .i64 db, .int .u32 e, .int .u16 f, .int .u16 t, .int .u32 ia, .int .u16 ipp] 77)) = w1 at *
  have qd_0 : ∀ W', Below w1.heap.size w1 W' → World.cell? W' ⟨w.heap.size, 0, none⟩ = some (.int .i64 k) := fun W' h => Cells.at_ (Cells.below h d) 0
  have qd_1 : ∀ W', Below w1.heap.size w1 W' → World.cell? W' ⟨w.heap.size, 1, none⟩ = some (.int .u8 p) := fun W' h => Cells.at_ (Cells.below h d) 1
  have qd_2 : ∀ W', Below w1.heap.size w1 W' → World.cell? W' ⟨w.heap.size, 2, none⟩ = some (.int .u32 sa) := fun W' h => Cells.at_ (Cells.below h d) 2
  have qd_3 : ∀ W', Below w1.heap.size w1 W' → World.cell? W' ⟨w.heap.size, 3, none⟩ = some (.int .i64 sb) := fun W' h => Cells.at_ (Cells.below h d) 3
  have qd_4 : ∀ W', Below w1.heap.size w1 W' → World.cell? W' ⟨w.heap.size, 4, none⟩ = some (.int .u32 da) := fun W' h => Cells.at_ (Cells.below h d) 4
  have qd_5 : ∀ W', Below w1.heap.size w1 W' → World.cell? W' ⟨w.heap.size, 5, none⟩ = some (.int .i64 db) := fun W' h => Cells.at_ (Cells.below h d) 5
  have qd_6 : ∀ W', Below w1.heap.size w1 W' → World.cell? W' ⟨w.heap.size, 6, none⟩ = some (.int .u32 e) := fun W' h => Cells.at_ (Cells.below h d) 6
  have qd_7 : ∀ W', Below w1.heap.size w1 W' → World.cell? W' ⟨w.heap.size, 7, none⟩ = some (.int .u16 f) := fun W' h => Cells.at_ (Cells.below h d) 7
  have qd_8 : ∀ W', Below w1.heap.size w1 W' → World.cell? W' ⟨w.heap.size, 8, none⟩ = some (.int .u16 t) := fun W' h => Cells.at_ (Cells.below h d) 8
  have qd_9 : ∀ W', Below w1.heap.size w1 W' → World.cell? W' ⟨w.heap.size, 9, none⟩ = some (.int .u32 ia) := fun W' h => Cells.at_ (Cells.below h d) 9
  have qd_10 : ∀ W', Below w1.heap.size w1 W' → World.cell? W' ⟨w.heap.size, 10, none⟩ = some (.int .u16 ipp) := fun W' h => Cells.at_ (Cells.below h d) 10
  have bb : Below w1.heap.size w1 w1 := Below.refl _ _
  have bA : ∀ W o, Below w1.heap.size w1 W → Below w1.heap.size w1 (W.alloc o) := fun W o h => bstep h (fresh_below W o)
  have D0 := hide d; have L0 := hide l0
  clear d l0
  go_wp2_with (first | (go_at_call 42; (with_reducible refine (C0.out _ (bstep L0.out (by assumption)) HH.out).mono ?_); rintro e2 w2 ⟨rfl, b2⟩; have b2' := bstep (by assumption : Below w1.heap.size w1 _) b2; clear b2))
  all_goals
    go_ret
    refine ⟨ret_int ?_, bstep L0.out (by assumption)⟩
    clear qd_0 qd_1 qd_2 qd_3 qd_4 qd_5 qd_6 qd_7 qd_8 qd_9 qd_10 D0 L0 bb bA C0 HH
    first
    | (rw [HV.out]; done)
    | (rw [HV.out]; clear HV; first | (simp [*]; done) | (simp [*]; omega) | (have hr := HR.out; simp [*]; omega) | (have hr := HR.out; simp [*]; rw [Bool.eq_iff_iff]; simp only [Bool.and_eq_true, bne_iff_ne, ne_eq, decide_eq_true_eq]; omega) | (clear K a; have hr := HR.out; clear HR; simp_all; omega) | (have hr := HR.out; clear HR; simp_all; omega) | (have hr := HR.out; clear HR; simp_all; done) | (cases s1 <;> simp_all; done) | (trace_state; fail))

def chkR (ip b : Int) (r : Rule) : Int := if mayR ip b r = true then 0 else 2
theorem t_Check (w : World) (B : Nat) (o ip b : Int) (v : Value) (r : Rule) (h : Tbl w B o ip b v) (hi : 0 ≤ ip ∧ ip ≤ 4294967295) (hr : r.Ok) :
    Calls Tryd.prog 30 #[.pointer (some ⟨B, 0, none⟩), .agg r.cells] w (Ret (.int .i64 (chkR ip b r)) w) := by
  obtain ⟨k, p, sa, sb, da, db, e, f, t, ia, ipp⟩ := r
  unfold chkR mayR Rule.cells
  simp only
  by_cases k1 : k = 1
  · subst k1; rw [if_pos rfl]; exact t_Check_1 w B o ip b v p sa sb da db e f t ia ipp h hi hr
  rw [if_neg k1]
  by_cases k2 : k = 2
  · subst k2; rw [if_pos rfl]; exact t_Check_2 w B o ip b v p sa sb da db e f t ia ipp h hi hr
  rw [if_neg k2]
  by_cases k3 : k = 3
  · subst k3; rw [if_pos rfl]; exact t_Check_3 w B o ip b v p sa sb da db e f t ia ipp h hi hr
  rw [if_neg k3]
  exact t_Check_no w B o ip b v k p sa sb da db e f t ia ipp h hi hr k1 k2 k3
end Go.Proofs.YtilfcikhipadpaaDoor
end

section
/- rules: rows of rules in memory; IndexFunc, ContainsFunc over them. -/
set_option linter.unusedVariables false
set_option linter.unusedSimpArgs false
namespace Go.Proofs.YtilfcikhipadpaaDoor
open Go.RowKit
attribute [local go_sem] Oper.semAt_some

/-- the cells of rules, one behind the other -/
def cellsOf (l : List Rule) : List Value := l.flatMap fun r => r.cells.toList
theorem cells11 (r : Rule) : r.cells.toList.length = 11 := rfl
theorem cellsOf_length (l : List Rule) : (cellsOf l).length = l.length * 11 := by
  induction l with
  | nil => rfl
  | cons a t ih => simp only [cellsOf, List.flatMap_cons, List.length_append, cells11, List.length_cons] at ih ⊢; omega
theorem cellsOf_append (a b : List Rule) : cellsOf (a ++ b) = cellsOf a ++ cellsOf b := by simp [cellsOf]
theorem cellsOf_take (l : List Rule) (n : Nat) : (cellsOf l).take (n * 11) = cellsOf (l.take n) := by
  induction l generalizing n with
  | nil => simp [cellsOf]
  | cons a t ih =>
    cases n with
    | zero => simp [cellsOf]
    | succ n =>
      have := ih n
      simp only [cellsOf, List.flatMap_cons, List.take_succ_cons] at this ⊢
      rw [List.take_append, cells11, List.take_of_length_le (by rw [cells11]; omega), show (n + 1) * 11 - 11 = n * 11 by omega, this]
theorem cellsOf_drop (l : List Rule) (n : Nat) : (cellsOf l).drop (n * 11) = cellsOf (l.drop n) := by
  induction l generalizing n with
  | nil => simp [cellsOf]
  | cons a t ih =>
    cases n with
    | zero => simp [cellsOf]
    | succ n =>
      have := ih n
      simp only [cellsOf, List.flatMap_cons, List.drop_succ_cons] at this ⊢
      rw [List.drop_append, cells11, List.drop_of_length_le (by rw [cells11]; omega), show (n + 1) * 11 - 11 = n * 11 by omega, this, List.nil_append]
theorem cellsOf_at {l : List Rule} {j i : Nat} (h : j < l.length) (hi : i < 11) : (cellsOf l)[j * 11 + i]? = (l[j]).cells.toList[i]? := by
  have h1 : (cellsOf l)[j * 11 + i]? = ((cellsOf l).drop (j * 11))[i]? := by rw [List.getElem?_drop]
  rw [h1, cellsOf_drop, List.drop_eq_getElem_cons h]
  simp only [cellsOf, List.flatMap_cons]
  rw [List.getElem?_append_left (by rw [cells11]; exact hi)]

/-- a slice of rules -/
def RR (W : World) (v : Value) (l : List Rule) : Prop := W.ownsRow 0 77 11 v l.length (cellsOf l)
theorem RR.nil (W : World) : RR W (.slice none 0 0) [] := ⟨rfl, Or.inl ⟨rfl, rfl⟩⟩
theorem RR.row {W : World} {v : Value} {l : List Rule} (h : RR W v l) {g : Nat} (k : v.ownBlock = some g) : g < W.heap.size := (World.ownsRow.lt h g k).2
theorem RR.same {W W' : World} {v : Value} {l : List Rule} (h : RR W v l) (k : ∀ g, v.ownBlock = some g → W'.heap[g]? = W.heap[g]?) : RR W' v l := by
  refine ⟨h.1, ?_⟩
  rcases h.2 with hn | ⟨g, cap, cur, hv, hb, hg, r⟩
  · exact Or.inl hn
  · exact Or.inr ⟨g, cap, cur, hv, hb, (k g (by rw [hv]; rfl)).trans hg, r⟩
theorem RR.below {W W' : World} {v : Value} {l : List Rule} (h : RR W v l) (k : Below W.heap.size W W') : RR W' v l := h.same fun g hg => k.block g (h.row hg)
theorem RR.cell {W : World} {v : Value} {l : List Rule} (h : RR W v l) (hn : l ≠ []) : ∃ g cap, v = .slice (some ⟨g, 0, none⟩) l.length cap ∧ g < W.heap.size ∧ l.length ≤ cap ∧ cap ≤ maxLen ∧ ∀ i u, (cellsOf l)[i]? = some u → W.cell? ⟨g, i, none⟩ = some u := by
  rcases h.2 with ⟨_, h0⟩ | ⟨g, cap, cur, hv, hb, hg, h1, h2, h3, h4⟩
  · exact absurd (List.length_eq_zero_iff.1 h0) hn
  · refine ⟨g, cap, hv, (Array.getElem?_eq_some_iff.1 hg).1, h1, h2, fun i u hu => ?_⟩
    rw [Lib.cell_of_heap hg]
    rw [← h4, List.getElem?_take] at hu
    split at hu
    · simpa using hu
    · cases hu

/-- the first place at which something holds, or -1 -/
def fidx (p : Rule → Bool) (l : List Rule) : Int := if l.any p = true then (l.findIdx p : Int) else -1
theorem fidx_hit {p : Rule → Bool} {l : List Rule} {k : Nat} (h : k < l.length) (hk : p l[k] = true) (hj : ∀ j (hj : j < k), p (l[j]'(by omega)) = false) : fidx p l = k := by
  unfold fidx
  rw [if_pos (List.any_eq_true.2 ⟨l[k], List.getElem_mem h, hk⟩), (List.findIdx_eq h).2 ⟨hk, hj⟩]
theorem fidx_miss {p : Rule → Bool} {l : List Rule} (hj : ∀ j (hj : j < l.length), p l[j] = false) : fidx p l = -1 := by
  unfold fidx
  rw [if_neg]
  rw [List.any_eq_true]
  rintro ⟨r, hr, hp⟩
  obtain ⟨j, hj2, rfl⟩ := List.getElem_of_mem hr
  rw [hj j hj2] at hp
  cases hp

set_option maxRecDepth 100000 in
set_option maxHeartbeats 4000000 in
theorem IndexFuncR (p : Rule → Bool) (g : Nat) (lb : Array Value) (eg : ∀ args w, (callFunc g args).run Tryd.prog w = .ok (.enter g args) w) (b c : Nat) (l : List Rule) (w : World)
    (hp : ∀ W r, r ∈ l → Below w.heap.size w W → Calls Tryd.prog g (#[.agg r.cells] ++ lb) W fun e w' => e = .returned (.bool (p r)) ∧ Below w.heap.size w w') (hbig : l.length ≤ 9223372036854775807) (hb : b < w.heap.size)
    (hc : ∀ i u, (cellsOf l)[i]? = some u → w.cell? ⟨b, i, none⟩ = some u) :
    Calls Tryd.prog 45 #[.slice (some ⟨b, 0, none⟩) l.length c, .func (.func g) #[] lb] w fun e w' => e = .returned (.int .i64 (fidx p l)) ∧ Below w.heap.size w w' := by
  obtain ⟨n, hn⟩ : ∃ n, n = l.length := ⟨_, rfl⟩
  obtain ⟨iv, hiv⟩ : ∃ iv, iv = fidx p l := ⟨_, rfl⟩
  rw [← hiv, ← hn]
  rw [← hn] at hbig
  have HN := hide hn; have HI := hide hiv; have HP := hide hp; have HC := hide hc; have HB := hide hb
  clear hn hiv hp hc hb
  go_enter Tryd.func45, Tryd.ntmps45
  go_wp2_with fail
  go_loopg [5, 8] n (fun gg _ s8 wr => ∃ kk : Nat, kk ≤ n ∧ n - kk ≤ gg ∧ s8 = .int .i64 kk ∧ Aside (Below w.heap.size w wr) ∧ Aside (∀ j (hj : j < kk) (hl : j < l.length), p l[j] = false))
  case atStart => exact ⟨0, Nat.zero_le _, by omega, rfl, Below.refl _ w, fun j hj => absurd hj (Nat.not_lt_zero _)⟩
  case round =>
    obtain ⟨kk, hkk, hg, rfl, BW, A⟩ := hrel
    by_cases hlt : kk < n
    · have hltz : (kk : Int) < (n : Int) := by omega
      have hl : kk < l.length := by have := HN.out; omega
      have hcall := HP.out wr l[kk] (List.getElem_mem hl) BW.out
      have hq : ∀ i u, (l[kk]).cells.toList[i]? = some u → i < 11 → wr.cell? ⟨b, kk * 11 + i, none⟩ = some u := fun i u hu hi => by
        rw [BW.out.cell (p := ⟨b, kk * 11 + i, none⟩) HB.out]
        exact HC.out _ _ (by rw [cellsOf_at hl hi]; exact hu)
      generalize hr : l[kk] = r at *
      have y0 : wr.cell? ⟨b, kk * 11, none⟩ = some (.int .i64 r.k) := hq 0 _ rfl (by omega)
      have y1 : wr.cell? ⟨b, kk * 11 + 1, none⟩ = some (.int .u8 r.p) := hq 1 _ rfl (by omega)
      have y2 : wr.cell? ⟨b, kk * 11 + 2, none⟩ = some (.int .u32 r.sa) := hq 2 _ rfl (by omega)
      have y3 : wr.cell? ⟨b, kk * 11 + 3, none⟩ = some (.int .i64 r.sb) := hq 3 _ rfl (by omega)
      have y4 : wr.cell? ⟨b, kk * 11 + 4, none⟩ = some (.int .u32 r.da) := hq 4 _ rfl (by omega)
      have y5 : wr.cell? ⟨b, kk * 11 + 5, none⟩ = some (.int .i64 r.db) := hq 5 _ rfl (by omega)
      have y6 : wr.cell? ⟨b, kk * 11 + 6, none⟩ = some (.int .u32 r.e) := hq 6 _ rfl (by omega)
      have y7 : wr.cell? ⟨b, kk * 11 + 7, none⟩ = some (.int .u16 r.f) := hq 7 _ rfl (by omega)
      have y8 : wr.cell? ⟨b, kk * 11 + 8, none⟩ = some (.int .u16 r.t) := hq 8 _ rfl (by omega)
      have y9 : wr.cell? ⟨b, kk * 11 + 9, none⟩ = some (.int .u32 r.ia) := hq 9 _ rfl (by omega)
      have y10 : wr.cell? ⟨b, kk * 11 + 10, none⟩ = some (.int .u16 r.ip) := hq 10 _ rfl (by omega)
      have HR := hide hr
      clear hq hr
      obtain ⟨q, hqq⟩ : ∃ q, q = p r := ⟨_, rfl⟩
      rw [← hqq] at hcall
      have HQ := hide hqq
      clear hqq
      cases q with
      | true =>
        unfold Rule.cells at hcall
        go_wp2_with (go_at_fn g; refine hcall.mono ?_; rintro e w' ⟨rfl, hb'⟩)
        go_ret
        refine ⟨?_, hb'⟩
        rw [HI.out, fidx_hit hl (by rw [HR.out]; exact HQ.out.symm) (fun j hj => A.out j hj (by omega))]
        rfl
      | false =>
        unfold Rule.cells at hcall
        go_wp2_with (go_at_fn g; refine hcall.mono ?_; rintro e w' ⟨rfl, hb'⟩)
        go_roundg (n - (kk + 1))
        case measure => omega
        case rel =>
          refine ⟨kk + 1, by omega, by omega, by go_num, hb', (show Aside _ from fun j hj hl => ?_)⟩
          by_cases e : j = kk
          · subst e
            rw [HR.out]; exact HQ.out.symm
          · exact A.out j (by omega) hl
    · have hltz : ¬ (kk : Int) < (n : Int) := by omega
      have : kk = n := by omega
      subst this
      go_wp2_with fail
      go_ret
      refine ⟨?_, BW.out⟩
      rw [HI.out, fidx_miss (fun j hj => A.out j (by rw [HN.out]; exact hj) hj)]
      rfl

theorem fidx_any (p : Rule → Bool) (l : List Rule) : decide (0 ≤ fidx p l) = l.any p := by
  unfold fidx
  split
  · rename_i h; rw [h]; simp
  · rename_i h; simp only [Bool.not_eq_true] at h; rw [h]; rfl
theorem IndexFuncE (A : Option Addr) (c : Nat) (f : Value) (w : World) :
    Calls Tryd.prog 45 #[.slice A 0 c, f] w (Ret (.int .i64 (-1)) w) := by
  go_enter Tryd.func45, Tryd.ntmps45
  go_wp2_with fail
  go_loopg [8] 1 (fun gg s8 wr => s8 = .int .i64 0 ∧ wr = w)
  case atStart => exact ⟨rfl, rfl⟩
  case round =>
    obtain ⟨rfl, rfl⟩ := hrel
    go_wp2_with fail
    go_ret
    exact ⟨rfl, Below.refl _ _⟩
/-- slices.IndexFunc over a slice of rules -/
theorem IndexFuncRR (p : Rule → Bool) (g : Nat) (lb : Array Value) (eg : ∀ args w, (callFunc g args).run Tryd.prog w = .ok (.enter g args) w) (v : Value) (l : List Rule) (w : World) (hv : RR w v l)
    (hp : ∀ W r, r ∈ l → Below w.heap.size w W → Calls Tryd.prog g (#[.agg r.cells] ++ lb) W fun e w' => e = .returned (.bool (p r)) ∧ Below w.heap.size w w') (hbig : l.length ≤ 9223372036854775807) :
    Calls Tryd.prog 45 #[v, .func (.func g) #[] lb] w (Ret (.int .i64 (fidx p l)) w) := by
  by_cases hl : l = []
  · subst hl
    rw [show fidx p [] = -1 from rfl]
    rcases hv.2 with h | ⟨g, cap, cur, h, _⟩
    · rw [h.1]; exact IndexFuncE _ _ _ w
    · rw [h]; exact IndexFuncE _ _ _ w
  · obtain ⟨b, cap, rfl, hb, h1, h2, hc⟩ := hv.cell hl
    exact IndexFuncR p g lb eg b cap l w hp hbig hb hc
theorem ContainsFuncRR (p : Rule → Bool) (g : Nat) (lb : Array Value) (eg : ∀ args w, (callFunc g args).run Tryd.prog w = .ok (.enter g args) w) (v : Value) (l : List Rule) (w : World) (hv : RR w v l)
    (hp : ∀ W r, r ∈ l → Below w.heap.size w W → Calls Tryd.prog g (#[.agg r.cells] ++ lb) W fun e w' => e = .returned (.bool (p r)) ∧ Below w.heap.size w w') (hbig : l.length ≤ 9223372036854775807) :
    Calls Tryd.prog 31 #[v, .func (.func g) #[] lb] w (Ret (.bool (l.any p)) w) := by
  have c1 := IndexFuncRR p g lb eg v l w hv hp hbig
  obtain ⟨q, hq⟩ : ∃ q, q = l.any p := ⟨_, rfl⟩
  rw [← hq]
  rw [← fidx_any] at hq
  generalize fidx p l = iv at *
  have C1 := hide c1; have HQ := hide hq
  clear c1 hq hp hv
  go_enter Tryd.func31, Tryd.ntmps31
  go_wp2_with fail
  (with_reducible refine (C1.out).mono ?_)
  rintro e w2 ⟨rfl, b2⟩
  go_wp2_with fail
  go_ret
  exact ⟨by rw [HQ.out]; rfl, b2⟩
end Go.Proofs.YtilfcikhipadpaaDoor
end
