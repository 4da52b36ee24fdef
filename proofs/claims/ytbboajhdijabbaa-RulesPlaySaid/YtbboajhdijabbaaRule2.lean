/- rules: Contains, source, Check; the document's Inner, May, Check (porterref11). -/
import Derived.Test.YtbboajhdijabbaaRule
set_option linter.unusedVariables false
set_option linter.unusedSimpArgs false
namespace Go.Proofs.Ytbboajhdijabbaa
open Go.RowKit
attribute [local go_sem] Oper.semAt_some

/-- the document's table at block B -/
def Doc (w : World) (B : Nat) (o ip b : Int) (v : Value) : Prop := Cells w B #[.int .u32 o, .int .u32 ip, .int .i64 b, v] 75
theorem Doc.below {w w' : World} {B : Nat} {o ip b : Int} {v : Value} (h : Doc w B o ip b v) (k : Below w.heap.size w w') : Doc w' B o ip b v := Cells.below k h
theorem d_Inner (w : World) (B : Nat) (o ip b a : Int) (v : Value) (h : Doc w B o ip b v) (hi : 0 ≤ ip ∧ ip ≤ 4294967295) (ha : 0 ≤ a ∧ a ≤ 4294967295) :
    Calls Try.prog 17 #[.pointer (some ⟨B, 0, none⟩), .int .u32 a] w (Ret (.bool (hasP ip b a)) w) := by
  have c2 := fun W => ref_Has ip b a W hi ha
  have C2 := hide c2
  have x2 : w.cell? ⟨B, 1, none⟩ = some (.int .u32 ip) := Cells.at_ h 1
  have x3 : w.cell? ⟨B, 2, none⟩ = some (.int .i64 b) := Cells.at_ h 2
  clear c2 h
  go_enter Try.func17, Try.ntmps17
  go_wp2_with fail
  (with_reducible refine (C2.out _).mono ?_)
  rintro e w2 ⟨rfl, b2⟩
  go_wp2_with fail
  go_ret
  exact ⟨rfl, b2⟩

/-- is a number among four that lie in a row -/
theorem Contains4 (x : Int) (w : World) (B c : Nat) (T : TypeId) (h : Cells w B #[.int .u8 0, .int .u8 1, .int .u8 6, .int .u8 17] T) :
    Calls Try.prog 61 #[.slice (some ⟨B, 0, none⟩) 4 c, .int .u8 x] w (Ret (.bool (decide (x = 0) || decide (x = 1) || decide (x = 6) || decide (x = 17))) w) := by
  obtain ⟨iv, hiv⟩ : ∃ iv : Int, iv = (if x = 0 then 0 else if x = 1 then 1 else if x = 6 then 2 else if x = 17 then 3 else -1) := ⟨_, rfl⟩
  have HI := hide hiv
  clear hiv
  have hx : Calls Try.prog 65 #[.slice (some ⟨B, 0, none⟩) 4 c, .int .u8 x] w (Ret (.int .i64 iv) w) := by
    have i0 : w.cell? ⟨B, 0, none⟩ = some (.int .u8 0) := Cells.at_ h 0
    have i1 : w.cell? ⟨B, 1, none⟩ = some (.int .u8 1) := Cells.at_ h 1
    have i2 : w.cell? ⟨B, 2, none⟩ = some (.int .u8 6) := Cells.at_ h 2
    have i3 : w.cell? ⟨B, 3, none⟩ = some (.int .u8 17) := Cells.at_ h 3
    clear h
    go_enter Try.func65, Try.ntmps65
    go_wp2_with fail
    go_loopw [8] (fun i wr => ∃ j : Nat, j ≤ 4 ∧ i = .int .i64 j ∧ wr = w ∧ (0 < j → x ≠ 0) ∧ (1 < j → x ≠ 1) ∧ (2 < j → x ≠ 6) ∧ (3 < j → x ≠ 17)) (fun i _ => (4 - intOf i).toNat)
    case atStart => exact ⟨0, by omega, rfl, rfl, by omega, by omega, by omega, by omega⟩
    case round =>
      obtain ⟨j, hj, rfl, rfl, n0, n1, n2, n3⟩ := hrel
      have hjj : j = 0 ∨ j = 1 ∨ j = 2 ∨ j = 3 ∨ j = 4 := by omega
      rcases hjj with rfl | rfl | rfl | rfl | rfl
      · clear n0 n1 n2 n3 hj
        by_cases hx : x = 0
        · have q1 : (x == 0) = true := by simpa using hx
          have HXX := hide hx
          clear hx
          go_wp2_with fail
          go_ret
          exact ⟨by rw [HI.out, HXX.out]; rfl, Below.refl _ _⟩
        · have q1 : (x == 0) = false := by simpa using hx
          have HXX := hide hx
          clear hx
          go_wp2_with fail
          go_roundw
          case rel => exact ⟨1, by omega, by go_num, trivial, fun _ => HXX.out, fun h => absurd h (by omega), fun h => absurd h (by omega), fun h => absurd h (by omega)⟩
          case measure => simp [intOf]
      · have N0 := n0 (by omega); clear n0 n1 n2 n3 hj
        by_cases hx : x = 1
        · have q1 : (x == 1) = true := by simpa using hx
          have HXX := hide hx; have NN0 := hide N0
          clear hx N0
          go_wp2_with fail
          go_ret
          exact ⟨by rw [HI.out, HXX.out]; rfl, Below.refl _ _⟩
        · have q1 : (x == 1) = false := by simpa using hx
          have HXX := hide hx; have NN0 := hide N0
          clear hx N0
          go_wp2_with fail
          go_roundw
          case rel => exact ⟨2, by omega, by go_num, trivial, fun _ => NN0.out, fun _ => HXX.out, fun h => absurd h (by omega), fun h => absurd h (by omega)⟩
          case measure => simp [intOf]
      · have N0 := n0 (by omega); have N1 := n1 (by omega); clear n0 n1 n2 n3 hj
        by_cases hx : x = 6
        · have q1 : (x == 6) = true := by simpa using hx
          have HXX := hide hx; have NN0 := hide N0; have NN1 := hide N1
          clear hx N0 N1
          go_wp2_with fail
          go_ret
          exact ⟨by rw [HI.out, HXX.out]; rfl, Below.refl _ _⟩
        · have q1 : (x == 6) = false := by simpa using hx
          have HXX := hide hx; have NN0 := hide N0; have NN1 := hide N1
          clear hx N0 N1
          go_wp2_with fail
          go_roundw
          case rel => exact ⟨3, by omega, by go_num, trivial, fun _ => NN0.out, fun _ => NN1.out, fun _ => HXX.out, fun h => absurd h (by omega)⟩
          case measure => simp [intOf]
      · have N0 := n0 (by omega); have N1 := n1 (by omega); have N2 := n2 (by omega); clear n0 n1 n2 n3 hj
        by_cases hx : x = 17
        · have q1 : (x == 17) = true := by simpa using hx
          have HXX := hide hx; have NN0 := hide N0; have NN1 := hide N1; have NN2 := hide N2
          clear hx N0 N1 N2
          go_wp2_with fail
          go_ret
          exact ⟨by rw [HI.out, HXX.out]; rfl, Below.refl _ _⟩
        · have q1 : (x == 17) = false := by simpa using hx
          have HXX := hide hx; have NN0 := hide N0; have NN1 := hide N1; have NN2 := hide N2
          clear hx N0 N1 N2
          go_wp2_with fail
          go_roundw
          case rel => exact ⟨4, by omega, by go_num, trivial, fun _ => NN0.out, fun _ => NN1.out, fun _ => NN2.out, fun _ => HXX.out⟩
          case measure => simp [intOf]
      · have N0 := n0 (by omega); have N1 := n1 (by omega); have N2 := n2 (by omega); have N3 := n3 (by omega)
        clear n0 n1 n2 n3 hj
        have NN := hide N0; have NN1 := hide N1; have NN2 := hide N2; have NN3 := hide N3
        clear N0 N1 N2 N3
        go_wp2_with fail
        go_ret
        exact ⟨by rw [HI.out, if_neg NN.out, if_neg NN1.out, if_neg NN2.out, if_neg NN3.out]; rfl, Below.refl _ _⟩
  have HX := hide hx
  clear hx h
  go_enter Try.func61, Try.ntmps61
  go_wp2_with fail
  (with_reducible refine (HX.out).mono ?_)
  rintro e w2 ⟨rfl, b2⟩
  go_wp2_with fail
  go_ret
  refine ⟨ret_bool ?_, b2⟩
  rw [HI.out]
  by_cases a0 : x = 0
  · simp [a0]
  by_cases a1 : x = 1
  · simp [a1]
  by_cases a2 : x = 6
  · simp [a2]
  by_cases a3 : x = 17
  · simp [a3]
  · simp [a0, a1, a2, a3]

set_option maxRecDepth 100000 in
set_option maxHeartbeats 4000000 in
theorem t_source (w : World) (B : Nat) (k p sa sb da db e f t ia ipp : Int) (hr : (Rule.mk k p sa sb da db e f t ia ipp).Ok) :
    Calls Try.prog 39 #[.pointer (some ⟨B, 0, none⟩), .agg #[.int .i64 k, .int .u8 p, .int .u32 sa, .int .i64 sb, .int .u32 da, .int .i64 db, .int .u32 e, .int .u16 f, .int .u16 t, .int .u32 ia, .int .u16 ipp]] w (Ret (.bool (srOk (Rule.mk k p sa sb da db e f t ia ipp))) w) := by
  unfold Rule.Ok at hr
  simp only at hr
  obtain ⟨vv, hvv⟩ : ∃ vv, vv = srOk (Rule.mk k p sa sb da db e f t ia ipp) := ⟨_, rfl⟩
  rw [← hvv]
  unfold srOk at hvv
  simp only at hvv
  have c0 := fun W B' c (h : Cells W B' #[.int .u8 0, .int .u8 1, .int .u8 6, .int .u8 17] 5) => Contains4 p W B' c _ h
  have c1 := fun W => addrs_May sa sb W hr.2.1
  have c2 := fun W => addrs_May da db W hr.2.2.1
  obtain ⟨hc, hhc⟩ : ∃ hc, hc = (decide (p = 0) || decide (p = 1) || decide (p = 6) || decide (p = 17)) := ⟨_, rfl⟩
  rw [← hhc] at hvv c0
  generalize mayP sa sb = m1 at *
  generalize mayP da db = m2 at *
  have C0 := hide c0; have C1 := hide c1; have C2 := hide c2; have HR := hide hr; have HV := hide hvv
  clear c0 c1 c2 hr hvv hhc
  go_enter Try.func39, Try.ntmps39
  have d := Cells.new w #[.int .i64 k, .int .u8 p, .int .u32 sa, .int .i64 sb, .int .u32 da, .int .i64 db, .int .u32 e, .int .u16 f, .int .u16 t, .int .u32 ia, .int .u16 ipp] 30
  have l0 := fresh_below w (.cells #[.int .i64 k, .int .u8 p, .int .u32 sa, .int .i64 sb, .int .u32 da, .int .i64 db, .int .u32 e, .int .u16 f, .int .u16 t, .int .u32 ia, .int .u16 ipp] 30)
  have L0 := hide l0; have D0 := hide d
  clear l0 d
  go_upto_region 1 with fail
  have l0 := L0.out; have d := D0.out
  clear L0 D0
  generalize (w.alloc (.cells #[.int .i64 k, .int .u8 p, .int .u32 sa, .int .i64 sb, .int .u32 da, .int .i64 db, .int .u32 e, .int .u16 f, .int .u16 t, .int .u32 ia, .int .u16 ipp] 30)) = w1 at *
  have qd_0 : ∀ W', Below w1.heap.size w1 W' → World.cell? W' ⟨w.heap.size, 0, none⟩ = some (.int .i64 k) := fun W' h => Cells.at_ (Cells.below h d) 0
  have qd_1 : ∀ W', Below w1.heap.size w1 W' → World.cell? W' ⟨w.heap.size, 1, none⟩ = some (.int .u8 p) := fun W' h => Cells.at_ (Cells.below h d) 1
  have qd_2 : ∀ W', Below w1.heap.size w1 W' → World.cell? W' ⟨w.heap.size, 2, none⟩ = some (.int .u32 sa) := fun W' h => Cells.at_ (Cells.below h d) 2
  have qd_3 : ∀ W', Below w1.heap.size w1 W' → World.cell? W' ⟨w.heap.size, 3, none⟩ = some (.int .i64 sb) := fun W' h => Cells.at_ (Cells.below h d) 3
  have qd_4 : ∀ W', Below w1.heap.size w1 W' → World.cell? W' ⟨w.heap.size, 4, none⟩ = some (.int .u32 da) := fun W' h => Cells.at_ (Cells.below h d) 4
  have qd_5 : ∀ W', Below w1.heap.size w1 W' → World.cell? W' ⟨w.heap.size, 5, none⟩ = some (.int .i64 db) := fun W' h => Cells.at_ (Cells.below h d) 5
  have qd_6 : ∀ W', Below w1.heap.size w1 W' → World.cell? W' ⟨w.heap.size, 6, none⟩ = some (.int .u32 e) := fun W' h => Cells.at_ (Cells.below h d) 6
  have qd_7 : ∀ W', Below w1.heap.size w1 W' → World.cell? W' ⟨w.heap.size, 7, none⟩ = some (.int .u16 f) := fun W' h => Cells.at_ (Cells.below h d) 7
  have qd_8 : ∀ W', Below w1.heap.size w1 W' → World.cell? W' ⟨w.heap.size, 8, none⟩ = some (.int .u16 t) := fun W' h => Cells.at_ (Cells.below h d) 8
  have qd_9 : ∀ W', Below w1.heap.size w1 W' → World.cell? W' ⟨w.heap.size, 9, none⟩ = some (.int .u32 ia) := fun W' h => Cells.at_ (Cells.below h d) 9
  have qd_10 : ∀ W', Below w1.heap.size w1 W' → World.cell? W' ⟨w.heap.size, 10, none⟩ = some (.int .u16 ipp) := fun W' h => Cells.at_ (Cells.below h d) 10
  have bb : Below w1.heap.size w1 w1 := Below.refl _ _
  have bA : ∀ W o, Below w1.heap.size w1 W → Below w1.heap.size w1 (W.alloc o) := fun W o h => bstep h (fresh_below W o)
  have D0 := hide d; have L0 := hide l0
  clear d l0
  go_wp2_with (first | (go_at_call 61; (with_reducible refine (C0.out _ _ _ (Cells.new w1 _ _)).mono ?_); rintro e2 w2 ⟨rfl, b2⟩; have b2' : Below w1.heap.size w1 w2 := bstep (bA _ _ bb) b2; clear b2) | (go_at_call 34; (with_reducible refine (C1.out _).mono ?_); rintro e2 w2 ⟨rfl, b2⟩; have b2' := bstep (by assumption : Below w1.heap.size w1 _) b2; clear b2) | (go_at_call 34; (with_reducible refine (C2.out _).mono ?_); rintro e2 w2 ⟨rfl, b2⟩; have b2' := bstep (by assumption : Below w1.heap.size w1 _) b2; clear b2))
  all_goals
    go_ret
    refine ⟨ret_bool ?_, bstep L0.out (by assumption)⟩
    clear qd_0 qd_1 qd_2 qd_3 qd_4 qd_5 qd_6 qd_7 qd_8 qd_9 qd_10 D0 L0 bb bA C0 C1 C2 HR
    rw [HV.out]
    clear HV
    first | (simp [*]; done) | (simp [*]; omega)
set_option maxRecDepth 100000 in
set_option maxHeartbeats 8000000 in
theorem d_May_3 (w : World) (B : Nat) (o ip b : Int) (v : Value) (p sa sb da db e f t ia ipp : Int) (h : Doc w B o ip b v) (hi : 0 ≤ ip ∧ ip ≤ 4294967295) (hr : (Rule.mk 3 p sa sb da db e f t ia ipp).Ok) :
    Calls Try.prog 41 #[.pointer (some ⟨B, 0, none⟩), .agg #[.int .i64 3, .int .u8 p, .int .u32 sa, .int .i64 sb, .int .u32 da, .int .i64 db, .int .u32 e, .int .u16 f, .int .u16 t, .int .u32 ia, .int .u16 ipp]] w (Ret (.bool (stOk ip b (Rule.mk 3 p sa sb da db e f t ia ipp))) w) := by
  unfold Rule.Ok at hr
  simp only at hr
  obtain ⟨vv, hvv⟩ : ∃ vv, vv = (stOk ip b (Rule.mk 3 p sa sb da db e f t ia ipp)) := ⟨_, rfl⟩
  rw [← hvv]
  (try unfold stOk at hvv)
  (try unfold srOk at hvv)
  (try simp only at hvv)
  have c1 := fun W (h : Below w.heap.size w W) (hw : Doc w B o ip b v) => d_Inner W B o ip b e v (Doc.below hw h) hi hr.2.2.2.1
  generalize hasP ip b e = he at *
  have c2 := fun W (h : Below w.heap.size w W) (hw : Doc w B o ip b v) => d_Inner W B o ip b ia v (Doc.below hw h) hi hr.2.2.2.2.2.2.1
  generalize hasP ip b ia = hia at *
  have C1 := hide c1; have C2 := hide c2; have HH := hide h; have HR := hide hr; have HV := hide hvv
  clear c1 c2 h hr hvv
  go_enter Try.func41, Try.ntmps41
  have d := Cells.new w #[.int .i64 3, .int .u8 p, .int .u32 sa, .int .i64 sb, .int .u32 da, .int .i64 db, .int .u32 e, .int .u16 f, .int .u16 t, .int .u32 ia, .int .u16 ipp] 30
  have l0 := fresh_below w (.cells #[.int .i64 3, .int .u8 p, .int .u32 sa, .int .i64 sb, .int .u32 da, .int .i64 db, .int .u32 e, .int .u16 f, .int .u16 t, .int .u32 ia, .int .u16 ipp] 30)
  have L0 := hide l0; have D0 := hide d
  clear l0 d
  go_upto_region 1 with fail
  have l0 := L0.out; have d := D0.out
  clear L0 D0
  generalize (w.alloc (.cells #[.int .i64 3, .int .u8 p, .int .u32 sa, .int .i64 sb, .int .u32 da, .int .i64 db, .int .u32 e, .int .u16 f, .int .u16 t, .int .u32 ia, .int .u16 ipp] 30)) = w1 at *
  have qd_0 : ∀ W', Below w1.heap.size w1 W' → World.cell? W' ⟨w.heap.size, 0, none⟩ = some (.int .i64 3) := fun W' h => Cells.at_ (Cells.below h d) 0
  have qd_1 : ∀ W', Below w1.heap.size w1 W' → World.cell? W' ⟨w.heap.size, 1, none⟩ = some (.int .u8 p) := fun W' h => Cells.at_ (Cells.below h d) 1
  have qd_2 : ∀ W', Below w1.heap.size w1 W' → World.cell? W' ⟨w.heap.size, 2, none⟩ = some (.int .u32 sa) := fun W' h => Cells.at_ (Cells.below h d) 2
  have qd_3 : ∀ W', Below w1.heap.size w1 W' → World.cell? W' ⟨w.heap.size, 3, none⟩ = some (.int .i64 sb) := fun W' h => Cells.at_ (Cells.below h d) 3
  have qd_4 : ∀ W', Below w1.heap.size w1 W' → World.cell? W' ⟨w.heap.size, 4, none⟩ = some (.int .u32 da) := fun W' h => Cells.at_ (Cells.below h d) 4
  have qd_5 : ∀ W', Below w1.heap.size w1 W' → World.cell? W' ⟨w.heap.size, 5, none⟩ = some (.int .i64 db) := fun W' h => Cells.at_ (Cells.below h d) 5
  have qd_6 : ∀ W', Below w1.heap.size w1 W' → World.cell? W' ⟨w.heap.size, 6, none⟩ = some (.int .u32 e) := fun W' h => Cells.at_ (Cells.below h d) 6
  have qd_7 : ∀ W', Below w1.heap.size w1 W' → World.cell? W' ⟨w.heap.size, 7, none⟩ = some (.int .u16 f) := fun W' h => Cells.at_ (Cells.below h d) 7
  have qd_8 : ∀ W', Below w1.heap.size w1 W' → World.cell? W' ⟨w.heap.size, 8, none⟩ = some (.int .u16 t) := fun W' h => Cells.at_ (Cells.below h d) 8
  have qd_9 : ∀ W', Below w1.heap.size w1 W' → World.cell? W' ⟨w.heap.size, 9, none⟩ = some (.int .u32 ia) := fun W' h => Cells.at_ (Cells.below h d) 9
  have qd_10 : ∀ W', Below w1.heap.size w1 W' → World.cell? W' ⟨w.heap.size, 10, none⟩ = some (.int .u16 ipp) := fun W' h => Cells.at_ (Cells.below h d) 10
  have bb : Below w1.heap.size w1 w1 := Below.refl _ _
  have bA : ∀ W o, Below w1.heap.size w1 W → Below w1.heap.size w1 (W.alloc o) := fun W o h => bstep h (fresh_below W o)
  have D0 := hide d; have L0 := hide l0
  clear d l0
  go_wp2_with (first | (go_at_call 17; (with_reducible refine (C1.out _ (bstep L0.out (by assumption)) HH.out).mono ?_); rintro e2 w2 ⟨rfl, b2⟩; have b2' := bstep (by assumption : Below w1.heap.size w1 _) b2; clear b2) | (go_at_call 17; (with_reducible refine (C2.out _ (bstep L0.out (by assumption)) HH.out).mono ?_); rintro e2 w2 ⟨rfl, b2⟩; have b2' := bstep (by assumption : Below w1.heap.size w1 _) b2; clear b2))
  all_goals
    go_ret
    refine ⟨ret_bool ?_, bstep L0.out (by assumption)⟩
    clear qd_0 qd_1 qd_2 qd_3 qd_4 qd_5 qd_6 qd_7 qd_8 qd_9 qd_10 D0 L0 bb bA C1 C2 HH
    first
    | (rw [HV.out]; done)
    | (rw [HV.out]; clear HV; first | (simp [*]; done) | (simp [*]; omega) | (have hr := HR.out; simp [*]; omega) | (have hr := HR.out; simp [*]; rw [Bool.eq_iff_iff]; simp only [Bool.and_eq_true, bne_iff_ne, ne_eq, decide_eq_true_eq]; omega) | (clear K a; have hr := HR.out; clear HR; simp_all; omega) | (have hr := HR.out; clear HR; simp_all; omega) | (have hr := HR.out; clear HR; simp_all; done) | (cases s1 <;> simp_all; done) | (trace_state; fail))

set_option maxRecDepth 100000 in
set_option maxHeartbeats 8000000 in
theorem d_May_1 (w : World) (B : Nat) (o ip b : Int) (v : Value) (p sa sb da db e f t ia ipp : Int) (h : Doc w B o ip b v) (hi : 0 ≤ ip ∧ ip ≤ 4294967295) (hr : (Rule.mk 1 p sa sb da db e f t ia ipp).Ok) :
    Calls Try.prog 41 #[.pointer (some ⟨B, 0, none⟩), .agg #[.int .i64 1, .int .u8 p, .int .u32 sa, .int .i64 sb, .int .u32 da, .int .i64 db, .int .u32 e, .int .u16 f, .int .u16 t, .int .u32 ia, .int .u16 ipp]] w (Ret (.bool (srOk (Rule.mk 1 p sa sb da db e f t ia ipp) && !hasP ip b e)) w) := by
  unfold Rule.Ok at hr
  simp only at hr
  obtain ⟨vv, hvv⟩ : ∃ vv, vv = (srOk (Rule.mk 1 p sa sb da db e f t ia ipp) && !hasP ip b e) := ⟨_, rfl⟩
  rw [← hvv]
  (try unfold stOk at hvv)
  (try unfold srOk at hvv)
  (try simp only at hvv)
  have c1 := fun W (h : Below w.heap.size w W) (hw : Doc w B o ip b v) => d_Inner W B o ip b e v (Doc.below hw h) hi hr.2.2.2.1
  generalize hasP ip b e = he at *
  have c3 := fun W => ref_May sa sb W hr.2.1
  have c4 := fun W => ref_May da db W hr.2.2.1
  generalize mayP sa sb = m1 at *
  generalize mayP da db = m2 at *
  have C1 := hide c1; have C3 := hide c3; have C4 := hide c4; have HH := hide h; have HR := hide hr; have HV := hide hvv
  clear c1 c3 c4 h hr hvv
  go_enter Try.func41, Try.ntmps41
  have d := Cells.new w #[.int .i64 1, .int .u8 p, .int .u32 sa, .int .i64 sb, .int .u32 da, .int .i64 db, .int .u32 e, .int .u16 f, .int .u16 t, .int .u32 ia, .int .u16 ipp] 30
  have l0 := fresh_below w (.cells #[.int .i64 1, .int .u8 p, .int .u32 sa, .int .i64 sb, .int .u32 da, .int .i64 db, .int .u32 e, .int .u16 f, .int .u16 t, .int .u32 ia, .int .u16 ipp] 30)
  have L0 := hide l0; have D0 := hide d
  clear l0 d
  go_upto_region 1 with fail
  have l0 := L0.out; have d := D0.out
  clear L0 D0
  generalize (w.alloc (.cells #[.int .i64 1, .int .u8 p, .int .u32 sa, .int .i64 sb, .int .u32 da, .int .i64 db, .int .u32 e, .int .u16 f, .int .u16 t, .int .u32 ia, .int .u16 ipp] 30)) = w1 at *
  have qd_0 : ∀ W', Below w1.heap.size w1 W' → World.cell? W' ⟨w.heap.size, 0, none⟩ = some (.int .i64 1) := fun W' h => Cells.at_ (Cells.below h d) 0
  have qd_1 : ∀ W', Below w1.heap.size w1 W' → World.cell? W' ⟨w.heap.size, 1, none⟩ = some (.int .u8 p) := fun W' h => Cells.at_ (Cells.below h d) 1
  have qd_2 : ∀ W', Below w1.heap.size w1 W' → World.cell? W' ⟨w.heap.size, 2, none⟩ = some (.int .u32 sa) := fun W' h => Cells.at_ (Cells.below h d) 2
  have qd_3 : ∀ W', Below w1.heap.size w1 W' → World.cell? W' ⟨w.heap.size, 3, none⟩ = some (.int .i64 sb) := fun W' h => Cells.at_ (Cells.below h d) 3
  have qd_4 : ∀ W', Below w1.heap.size w1 W' → World.cell? W' ⟨w.heap.size, 4, none⟩ = some (.int .u32 da) := fun W' h => Cells.at_ (Cells.below h d) 4
  have qd_5 : ∀ W', Below w1.heap.size w1 W' → World.cell? W' ⟨w.heap.size, 5, none⟩ = some (.int .i64 db) := fun W' h => Cells.at_ (Cells.below h d) 5
  have qd_6 : ∀ W', Below w1.heap.size w1 W' → World.cell? W' ⟨w.heap.size, 6, none⟩ = some (.int .u32 e) := fun W' h => Cells.at_ (Cells.below h d) 6
  have qd_7 : ∀ W', Below w1.heap.size w1 W' → World.cell? W' ⟨w.heap.size, 7, none⟩ = some (.int .u16 f) := fun W' h => Cells.at_ (Cells.below h d) 7
  have qd_8 : ∀ W', Below w1.heap.size w1 W' → World.cell? W' ⟨w.heap.size, 8, none⟩ = some (.int .u16 t) := fun W' h => Cells.at_ (Cells.below h d) 8
  have qd_9 : ∀ W', Below w1.heap.size w1 W' → World.cell? W' ⟨w.heap.size, 9, none⟩ = some (.int .u32 ia) := fun W' h => Cells.at_ (Cells.below h d) 9
  have qd_10 : ∀ W', Below w1.heap.size w1 W' → World.cell? W' ⟨w.heap.size, 10, none⟩ = some (.int .u16 ipp) := fun W' h => Cells.at_ (Cells.below h d) 10
  have bb : Below w1.heap.size w1 w1 := Below.refl _ _
  have bA : ∀ W o, Below w1.heap.size w1 W → Below w1.heap.size w1 (W.alloc o) := fun W o h => bstep h (fresh_below W o)
  have D0 := hide d; have L0 := hide l0
  clear d l0
  go_wp2_with (first | (go_at_call 17; (with_reducible refine (C1.out _ (bstep L0.out (by assumption)) HH.out).mono ?_); rintro e2 w2 ⟨rfl, b2⟩; have b2' := bstep (by assumption : Below w1.heap.size w1 _) b2; clear b2) | (go_at_call 36; (with_reducible refine (C3.out _).mono ?_); rintro e2 w2 ⟨rfl, b2⟩; have b2' := bstep (by assumption : Below w1.heap.size w1 _) b2; clear b2) | (go_at_call 36; (with_reducible refine (C4.out _).mono ?_); rintro e2 w2 ⟨rfl, b2⟩; have b2' := bstep (by assumption : Below w1.heap.size w1 _) b2; clear b2))
  all_goals
    go_ret
    refine ⟨ret_bool ?_, bstep L0.out (by assumption)⟩
    clear qd_0 qd_1 qd_2 qd_3 qd_4 qd_5 qd_6 qd_7 qd_8 qd_9 qd_10 D0 L0 bb bA C1 C3 C4 HH
    first
    | (rw [HV.out]; done)
    | (rw [HV.out]; clear HV; first | (simp [*]; done) | (simp [*]; omega) | (have hr := HR.out; simp [*]; omega) | (have hr := HR.out; simp [*]; rw [Bool.eq_iff_iff]; simp only [Bool.and_eq_true, bne_iff_ne, ne_eq, decide_eq_true_eq]; omega) | (clear K a; have hr := HR.out; clear HR; simp_all; omega) | (have hr := HR.out; clear HR; simp_all; omega) | (have hr := HR.out; clear HR; simp_all; done) | (cases s1 <;> simp_all; done) | (trace_state; fail))

set_option maxRecDepth 100000 in
set_option maxHeartbeats 8000000 in
theorem d_May_2 (w : World) (B : Nat) (o ip b : Int) (v : Value) (p sa sb da db e f t ia ipp : Int) (h : Doc w B o ip b v) (hi : 0 ≤ ip ∧ ip ≤ 4294967295) (hr : (Rule.mk 2 p sa sb da db e f t ia ipp).Ok) :
    Calls Try.prog 41 #[.pointer (some ⟨B, 0, none⟩), .agg #[.int .i64 2, .int .u8 p, .int .u32 sa, .int .i64 sb, .int .u32 da, .int .i64 db, .int .u32 e, .int .u16 f, .int .u16 t, .int .u32 ia, .int .u16 ipp]] w (Ret (.bool (srOk (Rule.mk 2 p sa sb da db e f t ia ipp) && decide (e = 0))) w) := by
  unfold Rule.Ok at hr
  simp only at hr
  obtain ⟨vv, hvv⟩ : ∃ vv, vv = (srOk (Rule.mk 2 p sa sb da db e f t ia ipp) && decide (e = 0)) := ⟨_, rfl⟩
  rw [← hvv]
  (try unfold stOk at hvv)
  (try unfold srOk at hvv)
  (try simp only at hvv)
  have c3 := fun W => ref_May sa sb W hr.2.1
  have c4 := fun W => ref_May da db W hr.2.2.1
  generalize mayP sa sb = m1 at *
  generalize mayP da db = m2 at *
  have C3 := hide c3; have C4 := hide c4; have HH := hide h; have HR := hide hr; have HV := hide hvv
  clear c3 c4 h hr hvv
  go_enter Try.func41, Try.ntmps41
  have d := Cells.new w #[.int .i64 2, .int .u8 p, .int .u32 sa, .int .i64 sb, .int .u32 da, .int .i64 db, .int .u32 e, .int .u16 f, .int .u16 t, .int .u32 ia, .int .u16 ipp] 30
  have l0 := fresh_below w (.cells #[.int .i64 2, .int .u8 p, .int .u32 sa, .int .i64 sb, .int .u32 da, .int .i64 db, .int .u32 e, .int .u16 f, .int .u16 t, .int .u32 ia, .int .u16 ipp] 30)
  have L0 := hide l0; have D0 := hide d
  clear l0 d
  go_upto_region 1 with fail
  have l0 := L0.out; have d := D0.out
  clear L0 D0
  generalize (w.alloc (.cells #[.int .i64 2, .int .u8 p, .int .u32 sa, .int .i64 sb, .int .u32 da, .int .i64 db, .int .u32 e, .int .u16 f, .int .u16 t, .int .u32 ia, .int .u16 ipp] 30)) = w1 at *
  have qd_0 : ∀ W', Below w1.heap.size w1 W' → World.cell? W' ⟨w.heap.size, 0, none⟩ = some (.int .i64 2) := fun W' h => Cells.at_ (Cells.below h d) 0
  have qd_1 : ∀ W', Below w1.heap.size w1 W' → World.cell? W' ⟨w.heap.size, 1, none⟩ = some (.int .u8 p) := fun W' h => Cells.at_ (Cells.below h d) 1
  have qd_2 : ∀ W', Below w1.heap.size w1 W' → World.cell? W' ⟨w.heap.size, 2, none⟩ = some (.int .u32 sa) := fun W' h => Cells.at_ (Cells.below h d) 2
  have qd_3 : ∀ W', Below w1.heap.size w1 W' → World.cell? W' ⟨w.heap.size, 3, none⟩ = some (.int .i64 sb) := fun W' h => Cells.at_ (Cells.below h d) 3
  have qd_4 : ∀ W', Below w1.heap.size w1 W' → World.cell? W' ⟨w.heap.size, 4, none⟩ = some (.int .u32 da) := fun W' h => Cells.at_ (Cells.below h d) 4
  have qd_5 : ∀ W', Below w1.heap.size w1 W' → World.cell? W' ⟨w.heap.size, 5, none⟩ = some (.int .i64 db) := fun W' h => Cells.at_ (Cells.below h d) 5
  have qd_6 : ∀ W', Below w1.heap.size w1 W' → World.cell? W' ⟨w.heap.size, 6, none⟩ = some (.int .u32 e) := fun W' h => Cells.at_ (Cells.below h d) 6
  have qd_7 : ∀ W', Below w1.heap.size w1 W' → World.cell? W' ⟨w.heap.size, 7, none⟩ = some (.int .u16 f) := fun W' h => Cells.at_ (Cells.below h d) 7
  have qd_8 : ∀ W', Below w1.heap.size w1 W' → World.cell? W' ⟨w.heap.size, 8, none⟩ = some (.int .u16 t) := fun W' h => Cells.at_ (Cells.below h d) 8
  have qd_9 : ∀ W', Below w1.heap.size w1 W' → World.cell? W' ⟨w.heap.size, 9, none⟩ = some (.int .u32 ia) := fun W' h => Cells.at_ (Cells.below h d) 9
  have qd_10 : ∀ W', Below w1.heap.size w1 W' → World.cell? W' ⟨w.heap.size, 10, none⟩ = some (.int .u16 ipp) := fun W' h => Cells.at_ (Cells.below h d) 10
  have bb : Below w1.heap.size w1 w1 := Below.refl _ _
  have bA : ∀ W o, Below w1.heap.size w1 W → Below w1.heap.size w1 (W.alloc o) := fun W o h => bstep h (fresh_below W o)
  have D0 := hide d; have L0 := hide l0
  clear d l0
  go_wp2_with (first | (go_at_call 36; (with_reducible refine (C3.out _).mono ?_); rintro e2 w2 ⟨rfl, b2⟩; have b2' := bstep (by assumption : Below w1.heap.size w1 _) b2; clear b2) | (go_at_call 36; (with_reducible refine (C4.out _).mono ?_); rintro e2 w2 ⟨rfl, b2⟩; have b2' := bstep (by assumption : Below w1.heap.size w1 _) b2; clear b2))
  all_goals
    go_ret
    refine ⟨ret_bool ?_, bstep L0.out (by assumption)⟩
    clear qd_0 qd_1 qd_2 qd_3 qd_4 qd_5 qd_6 qd_7 qd_8 qd_9 qd_10 D0 L0 bb bA C3 C4 HH
    first
    | (rw [HV.out]; done)
    | (rw [HV.out]; clear HV; first | (simp [*]; done) | (simp [*]; omega) | (have hr := HR.out; simp [*]; omega) | (have hr := HR.out; simp [*]; rw [Bool.eq_iff_iff]; simp only [Bool.and_eq_true, bne_iff_ne, ne_eq, decide_eq_true_eq]; omega) | (clear K a; have hr := HR.out; clear HR; simp_all; omega) | (have hr := HR.out; clear HR; simp_all; omega) | (have hr := HR.out; clear HR; simp_all; done) | (cases s1 <;> simp_all; done) | (trace_state; fail))

set_option maxRecDepth 100000 in
set_option maxHeartbeats 8000000 in
theorem d_May_no (w : World) (B : Nat) (o ip b : Int) (v : Value) (k p sa sb da db e f t ia ipp : Int) (h : Doc w B o ip b v) (hi : 0 ≤ ip ∧ ip ≤ 4294967295) (hr : (Rule.mk k p sa sb da db e f t ia ipp).Ok) (k1 : k ≠ 1) (k2 : k ≠ 2) (k3 : k ≠ 3) :
    Calls Try.prog 41 #[.pointer (some ⟨B, 0, none⟩), .agg #[.int .i64 k, .int .u8 p, .int .u32 sa, .int .i64 sb, .int .u32 da, .int .i64 db, .int .u32 e, .int .u16 f, .int .u16 t, .int .u32 ia, .int .u16 ipp]] w (Ret (.bool (false)) w) := by
  unfold Rule.Ok at hr
  simp only at hr
  obtain ⟨vv, hvv⟩ : ∃ vv, vv = (false) := ⟨_, rfl⟩
  rw [← hvv]
  (try unfold stOk at hvv)
  (try unfold srOk at hvv)
  (try simp only at hvv)
  have q1 : (k == 1) = false := by simpa using k1
  have q2 : (k == 2) = false := by simpa using k2
  have q3 : (k == 3) = false := by simpa using k3
  have q4 : (k != 1) = true := by simpa using k1
  have q5 : (k != 2) = true := by simpa using k2
  have HH := hide h; have HR := hide hr; have HV := hide hvv
  clear h hr hvv k1 k2 k3
  go_enter Try.func41, Try.ntmps41
  have d := Cells.new w #[.int .i64 k, .int .u8 p, .int .u32 sa, .int .i64 sb, .int .u32 da, .int .i64 db, .int .u32 e, .int .u16 f, .int .u16 t, .int .u32 ia, .int .u16 ipp] 30
  have l0 := fresh_below w (.cells #[.int .i64 k, .int .u8 p, .int .u32 sa, .int .i64 sb, .int .u32 da, .int .i64 db, .int .u32 e, .int .u16 f, .int .u16 t, .int .u32 ia, .int .u16 ipp] 30)
  have L0 := hide l0; have D0 := hide d
  clear l0 d
  go_upto_region 1 with fail
  have l0 := L0.out; have d := D0.out
  clear L0 D0
  generalize (w.alloc (.cells #[.int .i64 k, .int .u8 p, .int .u32 sa, .int .i64 sb, .int .u32 da, .int .i64 db, .int .u32 e, .int .u16 f, .int .u16 t, .int .u32 ia, .int .u16 ipp] 30)) = w1 at *
  have qd_0 : ∀ W', Below w1.heap.size w1 W' → World.cell? W' ⟨w.heap.size, 0, none⟩ = some (.int .i64 k) := fun W' h => Cells.at_ (Cells.below h d) 0
  have qd_1 : ∀ W', Below w1.heap.size w1 W' → World.cell? W' ⟨w.heap.size, 1, none⟩ = some (.int .u8 p) := fun W' h => Cells.at_ (Cells.below h d) 1
  have qd_2 : ∀ W', Below w1.heap.size w1 W' → World.cell? W' ⟨w.heap.size, 2, none⟩ = some (.int .u32 sa) := fun W' h => Cells.at_ (Cells.below h d) 2
  have qd_3 : ∀ W', Below w1.heap.size w1 W' → World.cell? W' ⟨w.heap.size, 3, none⟩ = some (.int .i64 sb) := fun W' h => Cells.at_ (Cells.below h d) 3
  have qd_4 : ∀ W', Below w1.heap.size w1 W' → World.cell? W' ⟨w.heap.size, 4, none⟩ = some (.int .u32 da) := fun W' h => Cells.at_ (Cells.below h d) 4
  have qd_5 : ∀ W', Below w1.heap.size w1 W' → World.cell? W' ⟨w.heap.size, 5, none⟩ = some (.int .i64 db) := fun W' h => Cells.at_ (Cells.below h d) 5
  have qd_6 : ∀ W', Below w1.heap.size w1 W' → World.cell? W' ⟨w.heap.size, 6, none⟩ = some (.int .u32 e) := fun W' h => Cells.at_ (Cells.below h d) 6
  have qd_7 : ∀ W', Below w1.heap.size w1 W' → World.cell? W' ⟨w.heap.size, 7, none⟩ = some (.int .u16 f) := fun W' h => Cells.at_ (Cells.below h d) 7
  have qd_8 : ∀ W', Below w1.heap.size w1 W' → World.cell? W' ⟨w.heap.size, 8, none⟩ = some (.int .u16 t) := fun W' h => Cells.at_ (Cells.below h d) 8
  have qd_9 : ∀ W', Below w1.heap.size w1 W' → World.cell? W' ⟨w.heap.size, 9, none⟩ = some (.int .u32 ia) := fun W' h => Cells.at_ (Cells.below h d) 9
  have qd_10 : ∀ W', Below w1.heap.size w1 W' → World.cell? W' ⟨w.heap.size, 10, none⟩ = some (.int .u16 ipp) := fun W' h => Cells.at_ (Cells.below h d) 10
  have bb : Below w1.heap.size w1 w1 := Below.refl _ _
  have bA : ∀ W o, Below w1.heap.size w1 W → Below w1.heap.size w1 (W.alloc o) := fun W o h => bstep h (fresh_below W o)
  have D0 := hide d; have L0 := hide l0
  clear d l0
  go_wp2_with fail
  all_goals
    go_ret
    refine ⟨ret_bool ?_, bstep L0.out (by assumption)⟩
    clear qd_0 qd_1 qd_2 qd_3 qd_4 qd_5 qd_6 qd_7 qd_8 qd_9 qd_10 D0 L0 bb bA HH
    first
    | (rw [HV.out]; done)
    | (rw [HV.out]; clear HV; first | (simp [*]; done) | (simp [*]; omega) | (have hr := HR.out; simp [*]; omega) | (have hr := HR.out; simp [*]; rw [Bool.eq_iff_iff]; simp only [Bool.and_eq_true, bne_iff_ne, ne_eq, decide_eq_true_eq]; omega) | (clear K a; have hr := HR.out; clear HR; simp_all; omega) | (have hr := HR.out; clear HR; simp_all; omega) | (have hr := HR.out; clear HR; simp_all; done) | (cases s1 <;> simp_all; done) | (trace_state; fail))

theorem d_May (w : World) (B : Nat) (o ip b : Int) (v : Value) (r : Rule) (h : Doc w B o ip b v) (hi : 0 ≤ ip ∧ ip ≤ 4294967295) (hr : r.Ok) :
    Calls Try.prog 41 #[.pointer (some ⟨B, 0, none⟩), .agg r.cells] w (Ret (.bool (mayR ip b r)) w) := by
  obtain ⟨k, p, sa, sb, da, db, e, f, t, ia, ipp⟩ := r
  unfold mayR Rule.cells
  simp only
  by_cases k1 : k = 1
  · subst k1; rw [if_pos rfl]; exact d_May_1 w B o ip b v p sa sb da db e f t ia ipp h hi hr
  rw [if_neg k1]
  by_cases k2 : k = 2
  · subst k2; rw [if_pos rfl]; exact d_May_2 w B o ip b v p sa sb da db e f t ia ipp h hi hr
  rw [if_neg k2]
  by_cases k3 : k = 3
  · subst k3; rw [if_pos rfl]; exact d_May_3 w B o ip b v p sa sb da db e f t ia ipp h hi hr
  rw [if_neg k3]
  exact d_May_no w B o ip b v k p sa sb da db e f t ia ipp h hi hr k1 k2 k3

set_option maxRecDepth 100000 in
set_option maxHeartbeats 4000000 in
theorem t_Check_1 (w : World) (B : Nat) (o ip b : Int) (v : Value) (p sa sb da db e f t ia ipp : Int) (h : Tbl w B o ip b v) (hi : 0 ≤ ip ∧ ip ≤ 4294967295) (hr : (Rule.mk 1 p sa sb da db e f t ia ipp).Ok) :
    Calls Try.prog 12 #[.pointer (some ⟨B, 0, none⟩), .agg #[.int .i64 1, .int .u8 p, .int .u32 sa, .int .i64 sb, .int .u32 da, .int .i64 db, .int .u32 e, .int .u16 f, .int .u16 t, .int .u32 ia, .int .u16 ipp]] w (Ret (.int .i64 (if (srOk (Rule.mk 1 p sa sb da db e f t ia ipp) && !hasP ip b e) = true then 0 else 2)) w) := by
  obtain ⟨vv, hvv⟩ : ∃ vv : Int, vv = (if (srOk (Rule.mk 1 p sa sb da db e f t ia ipp) && !hasP ip b e) = true then 0 else 2) := ⟨_, rfl⟩
  rw [← hvv]
  have c0 := fun W (h : Below w.heap.size w W) (hw : Tbl w B o ip b v) => t_none W B o ip b v (Tbl.below hw h)
  have c1 := fun W => t_source W B 1 p sa sb da db e f t ia ipp hr
  generalize srOk (Rule.mk 1 p sa sb da db e f t ia ipp) = s1 at *
  have c2 := fun W (h : Below w.heap.size w W) (hw : Tbl w B o ip b v) => t_Inner W B o ip b e v (Tbl.below hw h) hi hr.2.2.2.1
  generalize hasP ip b e = he at *
  have C1 := hide c1; have C2 := hide c2
  clear c1 c2
  have C0 := hide c0; have HH := hide h; have HR := hide hr; have HV := hide hvv
  clear c0 h hr hvv
  go_enter Try.func12, Try.ntmps12
  have d := Cells.new w #[.int .i64 1, .int .u8 p, .int .u32 sa, .int .i64 sb, .int .u32 da, .int .i64 db, .int .u32 e, .int .u16 f, .int .u16 t, .int .u32 ia, .int .u16 ipp] 30
  have l0 := fresh_below w (.cells #[.int .i64 1, .int .u8 p, .int .u32 sa, .int .i64 sb, .int .u32 da, .int .i64 db, .int .u32 e, .int .u16 f, .int .u16 t, .int .u32 ia, .int .u16 ipp] 30)
  have L0 := hide l0; have D0 := hide d
  clear l0 d
  go_upto_region 1 with fail
  have l0 := L0.out; have d := D0.out
  clear L0 D0
  generalize (w.alloc (.cells #[.int .i64 1, .int .u8 p, .int .u32 sa, .int .i64 sb, .int .u32 da, .int .i64 db, .int .u32 e, .int .u16 f, .int .u16 t, .int .u32 ia, .int .u16 ipp] 30)) = w1 at *
  have qd_0 : ∀ W', Below w1.heap.size w1 W' → World.cell? W' ⟨w.heap.size, 0, none⟩ = some (.int .i64 1) := fun W' h => Cells.at_ (Cells.below h d) 0
  have qd_1 : ∀ W', Below w1.heap.size w1 W' → World.cell? W' ⟨w.heap.size, 1, none⟩ = some (.int .u8 p) := fun W' h => Cells.at_ (Cells.below h d) 1
  have qd_2 : ∀ W', Below w1.heap.size w1 W' → World.cell? W' ⟨w.heap.size, 2, none⟩ = some (.int .u32 sa) := fun W' h => Cells.at_ (Cells.below h d) 2
  have qd_3 : ∀ W', Below w1.heap.size w1 W' → World.cell? W' ⟨w.heap.size, 3, none⟩ = some (.int .i64 sb) := fun W' h => Cells.at_ (Cells.below h d) 3
  have qd_4 : ∀ W', Below w1.heap.size w1 W' → World.cell? W' ⟨w.heap.size, 4, none⟩ = some (.int .u32 da) := fun W' h => Cells.at_ (Cells.below h d) 4
  have qd_5 : ∀ W', Below w1.heap.size w1 W' → World.cell? W' ⟨w.heap.size, 5, none⟩ = some (.int .i64 db) := fun W' h => Cells.at_ (Cells.below h d) 5
  have qd_6 : ∀ W', Below w1.heap.size w1 W' → World.cell? W' ⟨w.heap.size, 6, none⟩ = some (.int .u32 e) := fun W' h => Cells.at_ (Cells.below h d) 6
  have qd_7 : ∀ W', Below w1.heap.size w1 W' → World.cell? W' ⟨w.heap.size, 7, none⟩ = some (.int .u16 f) := fun W' h => Cells.at_ (Cells.below h d) 7
  have qd_8 : ∀ W', Below w1.heap.size w1 W' → World.cell? W' ⟨w.heap.size, 8, none⟩ = some (.int .u16 t) := fun W' h => Cells.at_ (Cells.below h d) 8
  have qd_9 : ∀ W', Below w1.heap.size w1 W' → World.cell? W' ⟨w.heap.size, 9, none⟩ = some (.int .u32 ia) := fun W' h => Cells.at_ (Cells.below h d) 9
  have qd_10 : ∀ W', Below w1.heap.size w1 W' → World.cell? W' ⟨w.heap.size, 10, none⟩ = some (.int .u16 ipp) := fun W' h => Cells.at_ (Cells.below h d) 10
  have bb : Below w1.heap.size w1 w1 := Below.refl _ _
  have bA : ∀ W o, Below w1.heap.size w1 W → Below w1.heap.size w1 (W.alloc o) := fun W o h => bstep h (fresh_below W o)
  have D0 := hide d; have L0 := hide l0
  clear d l0
  go_wp2_with (first | (go_at_call 38; (with_reducible refine (C0.out _ (bstep L0.out (by assumption)) HH.out).mono ?_); rintro e2 w2 ⟨rfl, b2⟩; have b2' := bstep (by assumption : Below w1.heap.size w1 _) b2; clear b2) | (go_at_call 39; (with_reducible refine (C1.out _).mono ?_); rintro e2 w2 ⟨rfl, b2⟩; have b2' := bstep (by assumption : Below w1.heap.size w1 _) b2; clear b2) | (go_at_call 16; (with_reducible refine (C2.out _ (bstep L0.out (by assumption)) HH.out).mono ?_); rintro e2 w2 ⟨rfl, b2⟩; have b2' := bstep (by assumption : Below w1.heap.size w1 _) b2; clear b2))
  all_goals
    go_ret
    refine ⟨ret_int ?_, bstep L0.out (by assumption)⟩
    clear qd_0 qd_1 qd_2 qd_3 qd_4 qd_5 qd_6 qd_7 qd_8 qd_9 qd_10 D0 L0 bb bA C0 HH C1 C2
    first
    | (rw [HV.out]; done)
    | (rw [HV.out]; clear HV; first | (simp [*]; done) | (simp [*]; omega) | (have hr := HR.out; simp [*]; omega) | (have hr := HR.out; simp [*]; rw [Bool.eq_iff_iff]; simp only [Bool.and_eq_true, bne_iff_ne, ne_eq, decide_eq_true_eq]; omega) | (clear K a; have hr := HR.out; clear HR; simp_all; omega) | (have hr := HR.out; clear HR; simp_all; omega) | (have hr := HR.out; clear HR; simp_all; done) | (cases s1 <;> simp_all; done) | (trace_state; fail))

set_option maxRecDepth 100000 in
set_option maxHeartbeats 4000000 in
theorem t_Check_2 (w : World) (B : Nat) (o ip b : Int) (v : Value) (p sa sb da db e f t ia ipp : Int) (h : Tbl w B o ip b v) (hi : 0 ≤ ip ∧ ip ≤ 4294967295) (hr : (Rule.mk 2 p sa sb da db e f t ia ipp).Ok) :
    Calls Try.prog 12 #[.pointer (some ⟨B, 0, none⟩), .agg #[.int .i64 2, .int .u8 p, .int .u32 sa, .int .i64 sb, .int .u32 da, .int .i64 db, .int .u32 e, .int .u16 f, .int .u16 t, .int .u32 ia, .int .u16 ipp]] w (Ret (.int .i64 (if (srOk (Rule.mk 2 p sa sb da db e f t ia ipp) && decide (e = 0)) = true then 0 else 2)) w) := by
  obtain ⟨vv, hvv⟩ : ∃ vv : Int, vv = (if (srOk (Rule.mk 2 p sa sb da db e f t ia ipp) && decide (e = 0)) = true then 0 else 2) := ⟨_, rfl⟩
  rw [← hvv]
  have c0 := fun W (h : Below w.heap.size w W) (hw : Tbl w B o ip b v) => t_none W B o ip b v (Tbl.below hw h)
  have c1 := fun W => t_source W B 2 p sa sb da db e f t ia ipp hr
  generalize srOk (Rule.mk 2 p sa sb da db e f t ia ipp) = s1 at *
  have C1 := hide c1
  clear c1
  have C0 := hide c0; have HH := hide h; have HR := hide hr; have HV := hide hvv
  clear c0 h hr hvv
  go_enter Try.func12, Try.ntmps12
  have d := Cells.new w #[.int .i64 2, .int .u8 p, .int .u32 sa, .int .i64 sb, .int .u32 da, .int .i64 db, .int .u32 e, .int .u16 f, .int .u16 t, .int .u32 ia, .int .u16 ipp] 30
  have l0 := fresh_below w (.cells #[.int .i64 2, .int .u8 p, .int .u32 sa, .int .i64 sb, .int .u32 da, .int .i64 db, .int .u32 e, .int .u16 f, .int .u16 t, .int .u32 ia, .int .u16 ipp] 30)
  have L0 := hide l0; have D0 := hide d
  clear l0 d
  go_upto_region 1 with fail
  have l0 := L0.out; have d := D0.out
  clear L0 D0
  generalize (w.alloc (.cells #[.int .i64 2, .int .u8 p, .int .u32 sa, .int .i64 sb, .int .u32 da, .int .i64 db, .int .u32 e, .int .u16 f, .int .u16 t, .int .u32 ia, .int .u16 ipp] 30)) = w1 at *
  have qd_0 : ∀ W', Below w1.heap.size w1 W' → World.cell? W' ⟨w.heap.size, 0, none⟩ = some (.int .i64 2) := fun W' h => Cells.at_ (Cells.below h d) 0
  have qd_1 : ∀ W', Below w1.heap.size w1 W' → World.cell? W' ⟨w.heap.size, 1, none⟩ = some (.int .u8 p) := fun W' h => Cells.at_ (Cells.below h d) 1
  have qd_2 : ∀ W', Below w1.heap.size w1 W' → World.cell? W' ⟨w.heap.size, 2, none⟩ = some (.int .u32 sa) := fun W' h => Cells.at_ (Cells.below h d) 2
  have qd_3 : ∀ W', Below w1.heap.size w1 W' → World.cell? W' ⟨w.heap.size, 3, none⟩ = some (.int .i64 sb) := fun W' h => Cells.at_ (Cells.below h d) 3
  have qd_4 : ∀ W', Below w1.heap.size w1 W' → World.cell? W' ⟨w.heap.size, 4, none⟩ = some (.int .u32 da) := fun W' h => Cells.at_ (Cells.below h d) 4
  have qd_5 : ∀ W', Below w1.heap.size w1 W' → World.cell? W' ⟨w.heap.size, 5, none⟩ = some (.int .i64 db) := fun W' h => Cells.at_ (Cells.below h d) 5
  have qd_6 : ∀ W', Below w1.heap.size w1 W' → World.cell? W' ⟨w.heap.size, 6, none⟩ = some (.int .u32 e) := fun W' h => Cells.at_ (Cells.below h d) 6
  have qd_7 : ∀ W', Below w1.heap.size w1 W' → World.cell? W' ⟨w.heap.size, 7, none⟩ = some (.int .u16 f) := fun W' h => Cells.at_ (Cells.below h d) 7
  have qd_8 : ∀ W', Below w1.heap.size w1 W' → World.cell? W' ⟨w.heap.size, 8, none⟩ = some (.int .u16 t) := fun W' h => Cells.at_ (Cells.below h d) 8
  have qd_9 : ∀ W', Below w1.heap.size w1 W' → World.cell? W' ⟨w.heap.size, 9, none⟩ = some (.int .u32 ia) := fun W' h => Cells.at_ (Cells.below h d) 9
  have qd_10 : ∀ W', Below w1.heap.size w1 W' → World.cell? W' ⟨w.heap.size, 10, none⟩ = some (.int .u16 ipp) := fun W' h => Cells.at_ (Cells.below h d) 10
  have bb : Below w1.heap.size w1 w1 := Below.refl _ _
  have bA : ∀ W o, Below w1.heap.size w1 W → Below w1.heap.size w1 (W.alloc o) := fun W o h => bstep h (fresh_below W o)
  have D0 := hide d; have L0 := hide l0
  clear d l0
  go_wp2_with (first | (go_at_call 38; (with_reducible refine (C0.out _ (bstep L0.out (by assumption)) HH.out).mono ?_); rintro e2 w2 ⟨rfl, b2⟩; have b2' := bstep (by assumption : Below w1.heap.size w1 _) b2; clear b2) | (go_at_call 39; (with_reducible refine (C1.out _).mono ?_); rintro e2 w2 ⟨rfl, b2⟩; have b2' := bstep (by assumption : Below w1.heap.size w1 _) b2; clear b2))
  all_goals
    go_ret
    refine ⟨ret_int ?_, bstep L0.out (by assumption)⟩
    clear qd_0 qd_1 qd_2 qd_3 qd_4 qd_5 qd_6 qd_7 qd_8 qd_9 qd_10 D0 L0 bb bA C0 HH C1
    first
    | (rw [HV.out]; done)
    | (rw [HV.out]; clear HV; first | (simp [*]; done) | (simp [*]; omega) | (have hr := HR.out; simp [*]; omega) | (have hr := HR.out; simp [*]; rw [Bool.eq_iff_iff]; simp only [Bool.and_eq_true, bne_iff_ne, ne_eq, decide_eq_true_eq]; omega) | (clear K a; have hr := HR.out; clear HR; simp_all; omega) | (have hr := HR.out; clear HR; simp_all; omega) | (have hr := HR.out; clear HR; simp_all; done) | (cases s1 <;> simp_all; done) | (trace_state; fail))

set_option maxRecDepth 100000 in
set_option maxHeartbeats 4000000 in
theorem t_Check_3 (w : World) (B : Nat) (o ip b : Int) (v : Value) (p sa sb da db e f t ia ipp : Int) (h : Tbl w B o ip b v) (hi : 0 ≤ ip ∧ ip ≤ 4294967295) (hr : (Rule.mk 3 p sa sb da db e f t ia ipp).Ok) :
    Calls Try.prog 12 #[.pointer (some ⟨B, 0, none⟩), .agg #[.int .i64 3, .int .u8 p, .int .u32 sa, .int .i64 sb, .int .u32 da, .int .i64 db, .int .u32 e, .int .u16 f, .int .u16 t, .int .u32 ia, .int .u16 ipp]] w (Ret (.int .i64 (if (stOk ip b (Rule.mk 3 p sa sb da db e f t ia ipp)) = true then 0 else 2)) w) := by
  obtain ⟨vv, hvv⟩ : ∃ vv : Int, vv = (if (stOk ip b (Rule.mk 3 p sa sb da db e f t ia ipp)) = true then 0 else 2) := ⟨_, rfl⟩
  rw [← hvv]
  have c0 := fun W (h : Below w.heap.size w W) (hw : Tbl w B o ip b v) => t_none W B o ip b v (Tbl.below hw h)
  have c1 := fun W (h : Below w.heap.size w W) (hw : Tbl w B o ip b v) => t_static W B o ip b v (Rule.mk 3 p sa sb da db e f t ia ipp) (Tbl.below hw h) hi hr
  unfold Rule.cells at c1
  simp only at c1
  generalize stOk ip b (Rule.mk 3 p sa sb da db e f t ia ipp) = s1 at *
  have C1 := hide c1
  clear c1
  have C0 := hide c0; have HH := hide h; have HR := hide hr; have HV := hide hvv
  clear c0 h hr hvv
  go_enter Try.func12, Try.ntmps12
  have d := Cells.new w #[.int .i64 3, .int .u8 p, .int .u32 sa, .int .i64 sb, .int .u32 da, .int .i64 db, .int .u32 e, .int .u16 f, .int .u16 t, .int .u32 ia, .int .u16 ipp] 30
  have l0 := fresh_below w (.cells #[.int .i64 3, .int .u8 p, .int .u32 sa, .int .i64 sb, .int .u32 da, .int .i64 db, .int .u32 e, .int .u16 f, .int .u16 t, .int .u32 ia, .int .u16 ipp] 30)
  have L0 := hide l0; have D0 := hide d
  clear l0 d
  go_upto_region 1 with fail
  have l0 := L0.out; have d := D0.out
  clear L0 D0
  generalize (w.alloc (.cells #[.int .i64 3, .int .u8 p, .int .u32 sa, .int .i64 sb, .int .u32 da, .int .i64 db, .int .u32 e, .int .u16 f, .int .u16 t, .int .u32 ia, .int .u16 ipp] 30)) = w1 at *
  have qd_0 : ∀ W', Below w1.heap.size w1 W' → World.cell? W' ⟨w.heap.size, 0, none⟩ = some (.int .i64 3) := fun W' h => Cells.at_ (Cells.below h d) 0
  have qd_1 : ∀ W', Below w1.heap.size w1 W' → World.cell? W' ⟨w.heap.size, 1, none⟩ = some (.int .u8 p) := fun W' h => Cells.at_ (Cells.below h d) 1
  have qd_2 : ∀ W', Below w1.heap.size w1 W' → World.cell? W' ⟨w.heap.size, 2, none⟩ = some (.int .u32 sa) := fun W' h => Cells.at_ (Cells.below h d) 2
  have qd_3 : ∀ W', Below w1.heap.size w1 W' → World.cell? W' ⟨w.heap.size, 3, none⟩ = some (.int .i64 sb) := fun W' h => Cells.at_ (Cells.below h d) 3
  have qd_4 : ∀ W', Below w1.heap.size w1 W' → World.cell? W' ⟨w.heap.size, 4, none⟩ = some (.int .u32 da) := fun W' h => Cells.at_ (Cells.below h d) 4
  have qd_5 : ∀ W', Below w1.heap.size w1 W' → World.cell? W' ⟨w.heap.size, 5, none⟩ = some (.int .i64 db) := fun W' h => Cells.at_ (Cells.below h d) 5
  have qd_6 : ∀ W', Below w1.heap.size w1 W' → World.cell? W' ⟨w.heap.size, 6, none⟩ = some (.int .u32 e) := fun W' h => Cells.at_ (Cells.below h d) 6
  have qd_7 : ∀ W', Below w1.heap.size w1 W' → World.cell? W' ⟨w.heap.size, 7, none⟩ = some (.int .u16 f) := fun W' h => Cells.at_ (Cells.below h d) 7
  have qd_8 : ∀ W', Below w1.heap.size w1 W' → World.cell? W' ⟨w.heap.size, 8, none⟩ = some (.int .u16 t) := fun W' h => Cells.at_ (Cells.below h d) 8
  have qd_9 : ∀ W', Below w1.heap.size w1 W' → World.cell? W' ⟨w.heap.size, 9, none⟩ = some (.int .u32 ia) := fun W' h => Cells.at_ (Cells.below h d) 9
  have qd_10 : ∀ W', Below w1.heap.size w1 W' → World.cell? W' ⟨w.heap.size, 10, none⟩ = some (.int .u16 ipp) := fun W' h => Cells.at_ (Cells.below h d) 10
  have bb : Below w1.heap.size w1 w1 := Below.refl _ _
  have bA : ∀ W o, Below w1.heap.size w1 W → Below w1.heap.size w1 (W.alloc o) := fun W o h => bstep h (fresh_below W o)
  have D0 := hide d; have L0 := hide l0
  clear d l0
  go_wp2_with (first | (go_at_call 38; (with_reducible refine (C0.out _ (bstep L0.out (by assumption)) HH.out).mono ?_); rintro e2 w2 ⟨rfl, b2⟩; have b2' := bstep (by assumption : Below w1.heap.size w1 _) b2; clear b2) | (go_at_call 40; (with_reducible refine (C1.out _ (bstep L0.out (by assumption)) HH.out).mono ?_); rintro e2 w2 ⟨rfl, b2⟩; have b2' := bstep (by assumption : Below w1.heap.size w1 _) b2; clear b2))
  all_goals
    go_ret
    refine ⟨ret_int ?_, bstep L0.out (by assumption)⟩
    clear qd_0 qd_1 qd_2 qd_3 qd_4 qd_5 qd_6 qd_7 qd_8 qd_9 qd_10 D0 L0 bb bA C0 HH C1
    first
    | (rw [HV.out]; done)
    | (rw [HV.out]; clear HV; first | (simp [*]; done) | (simp [*]; omega) | (have hr := HR.out; simp [*]; omega) | (have hr := HR.out; simp [*]; rw [Bool.eq_iff_iff]; simp only [Bool.and_eq_true, bne_iff_ne, ne_eq, decide_eq_true_eq]; omega) | (clear K a; have hr := HR.out; clear HR; simp_all; omega) | (have hr := HR.out; clear HR; simp_all; omega) | (have hr := HR.out; clear HR; simp_all; done) | (cases s1 <;> simp_all; done) | (trace_state; fail))

set_option maxRecDepth 100000 in
set_option maxHeartbeats 4000000 in
theorem t_Check_no (w : World) (B : Nat) (o ip b : Int) (v : Value) (k p sa sb da db e f t ia ipp : Int) (h : Tbl w B o ip b v) (hi : 0 ≤ ip ∧ ip ≤ 4294967295) (hr : (Rule.mk k p sa sb da db e f t ia ipp).Ok) (k1 : k ≠ 1) (k2 : k ≠ 2) (k3 : k ≠ 3) :
    Calls Try.prog 12 #[.pointer (some ⟨B, 0, none⟩), .agg #[.int .i64 k, .int .u8 p, .int .u32 sa, .int .i64 sb, .int .u32 da, .int .i64 db, .int .u32 e, .int .u16 f, .int .u16 t, .int .u32 ia, .int .u16 ipp]] w (Ret (.int .i64 (if (false) = true then 0 else 2)) w) := by
  obtain ⟨vv, hvv⟩ : ∃ vv : Int, vv = (if (false) = true then 0 else 2) := ⟨_, rfl⟩
  rw [← hvv]
  have c0 := fun W (h : Below w.heap.size w W) (hw : Tbl w B o ip b v) => t_none W B o ip b v (Tbl.below hw h)
  have q1 : (k == 1) = false := by simpa using k1
  have q2 : (k == 2) = false := by simpa using k2
  have q3 : (k == 3) = false := by simpa using k3
  clear k1 k2 k3
  have C0 := hide c0; have HH := hide h; have HR := hide hr; have HV := hide hvv
  clear c0 h hr hvv
  go_enter Try.func12, Try.ntmps12
  have d := Cells.new w #[.int .i64 k, .int .u8 p, .int .u32 sa, .int .i64 sb, .int .u32 da, .int .i64 db, .int .u32 e, .int .u16 f, .int .u16 t, .int .u32 ia, .int .u16 ipp] 30
  have l0 := fresh_below w (.cells #[.int .i64 k, .int .u8 p, .int .u32 sa, .int .i64 sb, .int .u32 da, .int .i64 db, .int .u32 e, .int .u16 f, .int .u16 t, .int .u32 ia, .int .u16 ipp] 30)
  have L0 := hide l0; have D0 := hide d
  clear l0 d
  go_upto_region 1 with fail
  have l0 := L0.out; have d := D0.out
  clear L0 D0
  generalize (w.alloc (.cells #[.int .i64 k, .int .u8 p, .int .u32 sa, .int .i64 sb, .int .u32 da, .int .i64 db, .int .u32 e, .int .u16 f, .int .u16 t, .int .u32 ia, .int .u16 ipp] 30)) = w1 at *
  have qd_0 : ∀ W', Below w1.heap.size w1 W' → World.cell? W' ⟨w.heap.size, 0, none⟩ = some (.int .i64 k) := fun W' h => Cells.at_ (Cells.below h d) 0
  have qd_1 : ∀ W', Below w1.heap.size w1 W' → World.cell? W' ⟨w.heap.size, 1, none⟩ = some (.int .u8 p) := fun W' h => Cells.at_ (Cells.below h d) 1
  have qd_2 : ∀ W', Below w1.heap.size w1 W' → World.cell? W' ⟨w.heap.size, 2, none⟩ = some (.int .u32 sa) := fun W' h => Cells.at_ (Cells.below h d) 2
  have qd_3 : ∀ W', Below w1.heap.size w1 W' → World.cell? W' ⟨w.heap.size, 3, none⟩ = some (.int .i64 sb) := fun W' h => Cells.at_ (Cells.below h d) 3
  have qd_4 : ∀ W', Below w1.heap.size w1 W' → World.cell? W' ⟨w.heap.size, 4, none⟩ = some (.int .u32 da) := fun W' h => Cells.at_ (Cells.below h d) 4
  have qd_5 : ∀ W', Below w1.heap.size w1 W' → World.cell? W' ⟨w.heap.size, 5, none⟩ = some (.int .i64 db) := fun W' h => Cells.at_ (Cells.below h d) 5
  have qd_6 : ∀ W', Below w1.heap.size w1 W' → World.cell? W' ⟨w.heap.size, 6, none⟩ = some (.int .u32 e) := fun W' h => Cells.at_ (Cells.below h d) 6
  have qd_7 : ∀ W', Below w1.heap.size w1 W' → World.cell? W' ⟨w.heap.size, 7, none⟩ = some (.int .u16 f) := fun W' h => Cells.at_ (Cells.below h d) 7
  have qd_8 : ∀ W', Below w1.heap.size w1 W' → World.cell? W' ⟨w.heap.size, 8, none⟩ = some (.int .u16 t) := fun W' h => Cells.at_ (Cells.below h d) 8
  have qd_9 : ∀ W', Below w1.heap.size w1 W' → World.cell? W' ⟨w.heap.size, 9, none⟩ = some (.int .u32 ia) := fun W' h => Cells.at_ (Cells.below h d) 9
  have qd_10 : ∀ W', Below w1.heap.size w1 W' → World.cell? W' ⟨w.heap.size, 10, none⟩ = some (.int .u16 ipp) := fun W' h => Cells.at_ (Cells.below h d) 10
  have bb : Below w1.heap.size w1 w1 := Below.refl _ _
  have bA : ∀ W o, Below w1.heap.size w1 W → Below w1.heap.size w1 (W.alloc o) := fun W o h => bstep h (fresh_below W o)
  have D0 := hide d; have L0 := hide l0
  clear d l0
  go_wp2_with (first | (go_at_call 38; (with_reducible refine (C0.out _ (bstep L0.out (by assumption)) HH.out).mono ?_); rintro e2 w2 ⟨rfl, b2⟩; have b2' := bstep (by assumption : Below w1.heap.size w1 _) b2; clear b2))
  all_goals
    go_ret
    refine ⟨ret_int ?_, bstep L0.out (by assumption)⟩
    clear qd_0 qd_1 qd_2 qd_3 qd_4 qd_5 qd_6 qd_7 qd_8 qd_9 qd_10 D0 L0 bb bA C0 HH
    first
    | (rw [HV.out]; done)
    | (rw [HV.out]; clear HV; first | (simp [*]; done) | (simp [*]; omega) | (have hr := HR.out; simp [*]; omega) | (have hr := HR.out; simp [*]; rw [Bool.eq_iff_iff]; simp only [Bool.and_eq_true, bne_iff_ne, ne_eq, decide_eq_true_eq]; omega) | (clear K a; have hr := HR.out; clear HR; simp_all; omega) | (have hr := HR.out; clear HR; simp_all; omega) | (have hr := HR.out; clear HR; simp_all; done) | (cases s1 <;> simp_all; done) | (trace_state; fail))

def chkR (ip b : Int) (r : Rule) : Int := if mayR ip b r = true then 0 else 2
theorem t_Check (w : World) (B : Nat) (o ip b : Int) (v : Value) (r : Rule) (h : Tbl w B o ip b v) (hi : 0 ≤ ip ∧ ip ≤ 4294967295) (hr : r.Ok) :
    Calls Try.prog 12 #[.pointer (some ⟨B, 0, none⟩), .agg r.cells] w (Ret (.int .i64 (chkR ip b r)) w) := by
  obtain ⟨k, p, sa, sb, da, db, e, f, t, ia, ipp⟩ := r
  unfold chkR mayR Rule.cells
  simp only
  by_cases k1 : k = 1
  · subst k1; rw [if_pos rfl]; exact t_Check_1 w B o ip b v p sa sb da db e f t ia ipp h hi hr
  rw [if_neg k1]
  by_cases k2 : k = 2
  · subst k2; rw [if_pos rfl]; exact t_Check_2 w B o ip b v p sa sb da db e f t ia ipp h hi hr
  rw [if_neg k2]
  by_cases k3 : k = 3
  · subst k3; rw [if_pos rfl]; exact t_Check_3 w B o ip b v p sa sb da db e f t ia ipp h hi hr
  rw [if_neg k3]
  exact t_Check_no w B o ip b v k p sa sb da db e f t ia ipp h hi hr k1 k2 k3
set_option maxHeartbeats 4000000 in
theorem d_Check (w : World) (B : Nat) (o ip b : Int) (v : Value) (r : Rule) (h : Doc w B o ip b v) (hi : 0 ≤ ip ∧ ip ≤ 4294967295) (hr : r.Ok) :
    Calls Try.prog 13 #[.pointer (some ⟨B, 0, none⟩), .agg r.cells] w (Ret (.int .i64 (chkR ip b r)) w) := by
  have c1 := fun W (h : Below w.heap.size w W) (hw : Doc w B o ip b v) => d_May W B o ip b v r (Doc.below hw h) hi hr
  obtain ⟨vv, hvv⟩ : ∃ vv : Int, vv = chkR ip b r := ⟨_, rfl⟩
  rw [← hvv]
  unfold chkR at hvv
  generalize mayR ip b r = s1 at *
  obtain ⟨k, p, sa, sb, da, db, e, f, t, ia, ipp⟩ := r
  unfold Rule.cells at *
  simp only at *
  have C1 := hide c1; have HH := hide h; have HV := hide hvv
  clear c1 h hvv hr
  go_enter Try.func13, Try.ntmps13
  have d := Cells.new w #[.int .i64 k, .int .u8 p, .int .u32 sa, .int .i64 sb, .int .u32 da, .int .i64 db, .int .u32 e, .int .u16 f, .int .u16 t, .int .u32 ia, .int .u16 ipp] 30
  have l0 := fresh_below w (.cells #[.int .i64 k, .int .u8 p, .int .u32 sa, .int .i64 sb, .int .u32 da, .int .i64 db, .int .u32 e, .int .u16 f, .int .u16 t, .int .u32 ia, .int .u16 ipp] 30)
  have L0 := hide l0; have D0 := hide d
  clear l0 d
  go_upto_region 1 with fail
  have l0 := L0.out; have d := D0.out
  clear L0 D0
  generalize (w.alloc (.cells #[.int .i64 k, .int .u8 p, .int .u32 sa, .int .i64 sb, .int .u32 da, .int .i64 db, .int .u32 e, .int .u16 f, .int .u16 t, .int .u32 ia, .int .u16 ipp] 30)) = w1 at *
  have qd_0 : ∀ W', Below w1.heap.size w1 W' → World.cell? W' ⟨w.heap.size, 0, none⟩ = some (.int .i64 k) := fun W' h => Cells.at_ (Cells.below h d) 0
  have qd_1 : ∀ W', Below w1.heap.size w1 W' → World.cell? W' ⟨w.heap.size, 1, none⟩ = some (.int .u8 p) := fun W' h => Cells.at_ (Cells.below h d) 1
  have qd_2 : ∀ W', Below w1.heap.size w1 W' → World.cell? W' ⟨w.heap.size, 2, none⟩ = some (.int .u32 sa) := fun W' h => Cells.at_ (Cells.below h d) 2
  have qd_3 : ∀ W', Below w1.heap.size w1 W' → World.cell? W' ⟨w.heap.size, 3, none⟩ = some (.int .i64 sb) := fun W' h => Cells.at_ (Cells.below h d) 3
  have qd_4 : ∀ W', Below w1.heap.size w1 W' → World.cell? W' ⟨w.heap.size, 4, none⟩ = some (.int .u32 da) := fun W' h => Cells.at_ (Cells.below h d) 4
  have qd_5 : ∀ W', Below w1.heap.size w1 W' → World.cell? W' ⟨w.heap.size, 5, none⟩ = some (.int .i64 db) := fun W' h => Cells.at_ (Cells.below h d) 5
  have qd_6 : ∀ W', Below w1.heap.size w1 W' → World.cell? W' ⟨w.heap.size, 6, none⟩ = some (.int .u32 e) := fun W' h => Cells.at_ (Cells.below h d) 6
  have qd_7 : ∀ W', Below w1.heap.size w1 W' → World.cell? W' ⟨w.heap.size, 7, none⟩ = some (.int .u16 f) := fun W' h => Cells.at_ (Cells.below h d) 7
  have qd_8 : ∀ W', Below w1.heap.size w1 W' → World.cell? W' ⟨w.heap.size, 8, none⟩ = some (.int .u16 t) := fun W' h => Cells.at_ (Cells.below h d) 8
  have qd_9 : ∀ W', Below w1.heap.size w1 W' → World.cell? W' ⟨w.heap.size, 9, none⟩ = some (.int .u32 ia) := fun W' h => Cells.at_ (Cells.below h d) 9
  have qd_10 : ∀ W', Below w1.heap.size w1 W' → World.cell? W' ⟨w.heap.size, 10, none⟩ = some (.int .u16 ipp) := fun W' h => Cells.at_ (Cells.below h d) 10
  have bb : Below w1.heap.size w1 w1 := Below.refl _ _
  have bA : ∀ W o, Below w1.heap.size w1 W → Below w1.heap.size w1 (W.alloc o) := fun W o h => bstep h (fresh_below W o)
  have D0 := hide d; have L0 := hide l0
  clear d l0
  go_wp2_with (first | (go_at_call 41; (with_reducible refine (C1.out _ (bstep L0.out (by assumption)) HH.out).mono ?_); rintro e2 w2 ⟨rfl, b2⟩; have b2' := bstep (by assumption : Below w1.heap.size w1 _) b2; clear b2))
  all_goals
    go_ret
    refine ⟨ret_int ?_, bstep L0.out (by assumption)⟩
    clear qd_0 qd_1 qd_2 qd_3 qd_4 qd_5 qd_6 qd_7 qd_8 qd_9 qd_10 D0 L0 bb bA C1 HH
    first
    | (rw [HV.out]; done)
    | (rw [HV.out]; clear HV; first | (simp [*]; done) | (simp [*]; omega) | (have hr := HR.out; simp [*]; omega) | (have hr := HR.out; simp [*]; rw [Bool.eq_iff_iff]; simp only [Bool.and_eq_true, bne_iff_ne, ne_eq, decide_eq_true_eq]; omega) | (clear K a; have hr := HR.out; clear HR; simp_all; omega) | (have hr := HR.out; clear HR; simp_all; omega) | (have hr := HR.out; clear HR; simp_all; done) | (cases s1 <;> simp_all; done) | (trace_state; fail))

end Go.Proofs.Ytbboajhdijabbaa
