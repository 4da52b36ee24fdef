/- rules: the document's Add (porterref11). -/
import Derived.Test.YtbboajhdijabbaaRdoc6
import Derived.Test.YtbboajhdijabbaaJ
set_option linter.unusedVariables false
set_option linter.unusedSimpArgs false
namespace Go.Proofs.Ytbboajhdijabbaa
open Go.RowKit Go.Lib
attribute [local go_sem] Oper.semAt_some

theorem own_app {x v : Option Nat} {n m : Nat} (h : x = v ∨ x = some m) (hv : ∀ k, v = some k → n ≤ k) (hm : n ≤ m) : ∀ k, x = some k → n ≤ k := fun k hk => by
  rcases h with h | h
  · exact hv k (h ▸ hk)
  · rw [h] at hk; cases hk; exact hm
/-- what is left behind a call on the document's table -/
def DPost (w : World) (B : Nat) (o ip b : Int) (v : Value) (l' : List Rule) (rv : Value) (e : Ending) (w' : World) : Prop :=
  e = .returned rv ∧ ∃ v', DS w' B o ip b l' v' ∧ Only (fun k => k = B ∨ v.ownBlock = some k) w w' ∧ ∀ g, v'.ownBlock = some g → v.ownBlock = some g ∨ w.heap.size ≤ g
theorem DPost.keep {w w' : World} {B : Nat} {o ip b : Int} {l : List Rule} {v : Value} {rv : Value} (h : DS w B o ip b l v) (k : Below w.heap.size w w') : DPost w B o ip b v l rv (.returned rv) w' :=
  ⟨rfl, v, h.below k, Only.of_below k (Nat.le_refl _), fun g hg => Or.inl hg⟩
/-- the document's answer of Add, and the rules behind it -/
def addD (o ip b : Int) (l : List Rule) (i : Int) (r : Rule) : Int := if mayR ip b r = false then 2 else if i < 0 ∨ (l.length : Int) < i then 2 else if 32 ≤ l.length then 5 else if (l.any fun x => dClash o x r) = true then 11 else 0
theorem addD_eq {o ip b : Int} {l : List Rule} {i : Int} {r : Rule} (h : ∀ x ∈ l, mayR ip b x = true) : addD o ip b l i r = addC o ip b l i r := by
  unfold addD addC
  by_cases hr : mayR ip b r = true
  · have e : (l.any fun x => dClash o x r) = l.any fun x => clashR (wholeR o x) (wholeR o r) := by
      induction l with
      | nil => rfl
      | cons x t ih =>
        rw [List.any_cons, List.any_cons, ih (fun y hy => h y (List.mem_cons_of_mem _ hy)), clash_doc o x r (h x List.mem_cons_self) hr]
    rw [e]
  · simp only [Bool.not_eq_true] at hr
    rw [if_pos hr, if_pos hr]

set_option maxHeartbeats 8000000 in
set_option maxRecDepth 100000 in
theorem d_Add_no (w : World) (B : Nat) (o ip b : Int) (v : Value) (l : List Rule) (i : Int) (r : Rule) (h : DS w B o ip b l v) (hip : 0 ≤ ip ∧ ip ≤ 4294967295) (hr : r.Ok) (hl : l.length ≤ 1000) (rc : Int) (hrc : (mayR ip b r = false ∧ rc = 2) ∨ (mayR ip b r = true ∧ (i < 0 ∨ (l.length : Int) < i) ∧ rc = 2) ∨ (mayR ip b r = true ∧ (0 ≤ i ∧ i ≤ (l.length : Int)) ∧ 32 ≤ l.length ∧ rc = 5)) :
    Calls Try.prog 15 #[.pointer (some ⟨B, 0, none⟩), .int .i64 i, .agg r.cells] w (Ret (.int .i64 rc) w) := by
  obtain ⟨A, c, hv⟩ := slice_of h.row
  have c0 : ∀ W, Below w.heap.size w W → Calls Try.prog 41 #[.pointer (some ⟨B, 0, none⟩), .agg r.cells] W (Ret (.bool (mayR ip b r)) W) := fun W hW => d_May W B o ip b v r (Doc.below h.tbl hW) hip hr
  generalize mayR ip b r = m at *
  obtain ⟨n, hnn⟩ : ∃ n, n = l.length := ⟨_, rfl⟩
  have hT := h.tbl
  rw [hv, ← hnn] at hT
  rw [← hnn] at hrc
  unfold Rule.cells at *
  have hn63 : (n : Int) ≤ 1000 := by omega
  have C0 := hide c0; have HC := hide hrc; have HT := hide hT
  clear h hv c0 hrc hnn hT hr hip hl
  cases m
  all_goals
    go_enter Try.func15, Try.ntmps15
    have t5 := Cells.new w #[.int .i64 r.k, .int .u8 r.p, .int .u32 r.sa, .int .i64 r.sb, .int .u32 r.da, .int .i64 r.db, .int .u32 r.e, .int .u16 r.f, .int .u16 r.t, .int .u32 r.ia, .int .u16 r.ip] 30
    have l0 := fresh_below w (.cells #[.int .i64 r.k, .int .u8 r.p, .int .u32 r.sa, .int .i64 r.sb, .int .u32 r.da, .int .i64 r.db, .int .u32 r.e, .int .u16 r.f, .int .u16 r.t, .int .u32 r.ia, .int .u16 r.ip] 30)
    have L0 := hide l0; have T5 := hide t5
    clear l0 t5
    go_upto_region 1 with fail
    have l0 := L0.out; have t5 := T5.out
    clear L0 T5
    generalize (w.alloc (.cells #[.int .i64 r.k, .int .u8 r.p, .int .u32 r.sa, .int .i64 r.sb, .int .u32 r.da, .int .i64 r.db, .int .u32 r.e, .int .u16 r.f, .int .u16 r.t, .int .u32 r.ia, .int .u16 r.ip] 30)) = w1 at *
    have hT1 := Cells.below l0 HT.out
    have qhT1_0 : ∀ W', Below w1.heap.size w1 W' → World.cell? W' ⟨B, 0, none⟩ = some (.int .u32 o) := fun W' h => Cells.at_ (Cells.below h hT1) 0
    have qhT1_1 : ∀ W', Below w1.heap.size w1 W' → World.cell? W' ⟨B, 1, none⟩ = some (.int .u32 ip) := fun W' h => Cells.at_ (Cells.below h hT1) 1
    have qhT1_2 : ∀ W', Below w1.heap.size w1 W' → World.cell? W' ⟨B, 2, none⟩ = some (.int .i64 b) := fun W' h => Cells.at_ (Cells.below h hT1) 2
    have qhT1_3 : ∀ W', Below w1.heap.size w1 W' → World.cell? W' ⟨B, 3, none⟩ = some (.slice A n c) := fun W' h => Cells.at_ (Cells.below h hT1) 3
    have qt5_0 : ∀ W', Below w1.heap.size w1 W' → World.cell? W' ⟨w.heap.size, 0, none⟩ = some (.int .i64 r.k) := fun W' h => Cells.at_ (Cells.below h t5) 0
    have qt5_1 : ∀ W', Below w1.heap.size w1 W' → World.cell? W' ⟨w.heap.size, 1, none⟩ = some (.int .u8 r.p) := fun W' h => Cells.at_ (Cells.below h t5) 1
    have qt5_2 : ∀ W', Below w1.heap.size w1 W' → World.cell? W' ⟨w.heap.size, 2, none⟩ = some (.int .u32 r.sa) := fun W' h => Cells.at_ (Cells.below h t5) 2
    have qt5_3 : ∀ W', Below w1.heap.size w1 W' → World.cell? W' ⟨w.heap.size, 3, none⟩ = some (.int .i64 r.sb) := fun W' h => Cells.at_ (Cells.below h t5) 3
    have qt5_4 : ∀ W', Below w1.heap.size w1 W' → World.cell? W' ⟨w.heap.size, 4, none⟩ = some (.int .u32 r.da) := fun W' h => Cells.at_ (Cells.below h t5) 4
    have qt5_5 : ∀ W', Below w1.heap.size w1 W' → World.cell? W' ⟨w.heap.size, 5, none⟩ = some (.int .i64 r.db) := fun W' h => Cells.at_ (Cells.below h t5) 5
    have qt5_6 : ∀ W', Below w1.heap.size w1 W' → World.cell? W' ⟨w.heap.size, 6, none⟩ = some (.int .u32 r.e) := fun W' h => Cells.at_ (Cells.below h t5) 6
    have qt5_7 : ∀ W', Below w1.heap.size w1 W' → World.cell? W' ⟨w.heap.size, 7, none⟩ = some (.int .u16 r.f) := fun W' h => Cells.at_ (Cells.below h t5) 7
    have qt5_8 : ∀ W', Below w1.heap.size w1 W' → World.cell? W' ⟨w.heap.size, 8, none⟩ = some (.int .u16 r.t) := fun W' h => Cells.at_ (Cells.below h t5) 8
    have qt5_9 : ∀ W', Below w1.heap.size w1 W' → World.cell? W' ⟨w.heap.size, 9, none⟩ = some (.int .u32 r.ia) := fun W' h => Cells.at_ (Cells.below h t5) 9
    have qt5_10 : ∀ W', Below w1.heap.size w1 W' → World.cell? W' ⟨w.heap.size, 10, none⟩ = some (.int .u16 r.ip) := fun W' h => Cells.at_ (Cells.below h t5) 10
    have bb : Below w1.heap.size w1 w1 := Below.refl _ _
    have T5 := hide t5; have L0 := hide l0; have T1 := hide hT1
    clear l0 t5 hT1
    go_wp2_with ((go_at_call 41; (with_reducible refine (C0.out _ (bstep L0.out (by assumption))).mono ?_); rintro e2 w2 ⟨rfl, b2⟩; have b2' := bstep (by assumption : Below w1.heap.size w1 _) b2; clear b2))
    all_goals first
      | (exfalso; have hc := HC.out; simp only [Bool.false_eq_true, Bool.true_eq_false, false_and, true_and, or_false, false_or] at hc; omega)
      | (go_ret; refine ⟨ret_int ?_, bstep L0.out (by assumption)⟩; have hc := HC.out; simp only [Bool.false_eq_true, Bool.true_eq_false, false_and, true_and, or_false, false_or] at hc; omega)

set_option maxHeartbeats 8000000 in
set_option maxRecDepth 100000 in
theorem d_Add_go (w : World) (B : Nat) (o ip b : Int) (v : Value) (l : List Rule) (i : Nat) (r : Rule) (h : DS w B o ip b l v) (hip : 0 ≤ ip ∧ ip ≤ 4294967295) (hr : r.Ok) (hi : i ≤ l.length) (hl : l.length < 32) (hm : mayR ip b r = true) (rc : Int) (hrc : rc = if (l.any fun x => dClash o x r) = true then 11 else 0) :
    Calls Try.prog 15 #[.pointer (some ⟨B, 0, none⟩), .int .i64 i, .agg r.cells] w (DPost w B o ip b v (if rc = 0 then l.take i ++ r :: l.drop i else l) (.int .i64 rc)) := by
  obtain ⟨A, c, hv, hrow⟩ := h.rows
  have c0 : ∀ W, Below w.heap.size w W → Calls Try.prog 41 #[.pointer (some ⟨B, 0, none⟩), .agg r.cells] W (Ret (.bool true) W) := fun W hW => by
    have := d_May W B o ip b v r (Doc.below h.tbl hW) hip hr
    rwa [hm] at this
  have c1 := fun W x (hW : Below w.heap.size w W) => d_Clash W B o ip b v x r (Doc.below h.tbl hW)
  obtain ⟨L, hL⟩ : ∃ L, L = (if rc = 0 then l.take i ++ r :: l.drop i else l) := ⟨_, rfl⟩
  rw [← hL]
  obtain ⟨n, hnn⟩ : ∃ n, n = l.length := ⟨_, rfl⟩
  have hT := h.tbl
  have hR := h.row
  rw [hv, ← hnn] at hT
  rw [← hnn] at hv hi hl
  have SA := hide (fun W (hW : Below w.heap.size w W) g (hg : A = some (⟨g, 0, none⟩ : Addr)) c' => SrcR.take (W := W) (g := g) (n := n) (c := c) (i := i) (l := l) (by rw [← hg, ← hv]; exact RR.below hR hW) (by omega) c')
  have SB := hide (fun W (hW : Below w.heap.size w W) g (hg : A = some (⟨g, 0, none⟩ : Addr)) A2 hA2 c' => SrcR.drop (W := W) (g := g) (n := n) (c := c) (i := i) (l := l) (by rw [← hg, ← hv]; exact RR.below hR hW) (by omega) A2 hA2 c' (n - i) (by omega))
  unfold Rule.cells at *
  have hBlt : B < w.heap.size := Cells.lt h.tbl
  have hn63 : (n : Int) ≤ 31 := by omega
  have hi63 : (i : Int) ≤ (n : Int) := by omega
  have g1 : decide ((i : Int) < 0) = false := by rw [decide_eq_false_iff_not]; omega
  have g2 : decide (n < i) = false := by rw [decide_eq_false_iff_not]; omega
  have g3 : decide ((n : Int) < (i : Int)) = false := by rw [decide_eq_false_iff_not]; omega
  have g4 : decide ((31 : Int) < (n : Int)) = false := by rw [decide_eq_false_iff_not]; omega
  have H := hide h; have HV := hide hv; have C0 := hide c0; have C1 := hide c1; have HR := hide hrow; have HC := hide hrc; have HL := hide hL; have HN := hide hnn; have HT := hide hT; have HB := hide hBlt; have HI := hide hi
  clear h hv c0 c1 hrow hrc hL hnn hT hBlt hr hip hl hm hi hR
  go_enter Try.func15, Try.ntmps15
  have t5 := Cells.new w #[.int .i64 r.k, .int .u8 r.p, .int .u32 r.sa, .int .i64 r.sb, .int .u32 r.da, .int .i64 r.db, .int .u32 r.e, .int .u16 r.f, .int .u16 r.t, .int .u32 r.ia, .int .u16 r.ip] 30
  have l0 := fresh_below w (.cells #[.int .i64 r.k, .int .u8 r.p, .int .u32 r.sa, .int .i64 r.sb, .int .u32 r.da, .int .i64 r.db, .int .u32 r.e, .int .u16 r.f, .int .u16 r.t, .int .u32 r.ia, .int .u16 r.ip] 30)
  have L0 := hide l0; have T5 := hide t5
  clear l0 t5
  go_upto_region 1 with fail
  have l0 := L0.out; have t5 := T5.out
  clear L0 T5
  generalize (w.alloc (.cells #[.int .i64 r.k, .int .u8 r.p, .int .u32 r.sa, .int .i64 r.sb, .int .u32 r.da, .int .i64 r.db, .int .u32 r.e, .int .u16 r.f, .int .u16 r.t, .int .u32 r.ia, .int .u16 r.ip] 30)) = w1 at *
  have hT1 := Cells.below l0 HT.out
  have qhT1_0 : ∀ W', Below w1.heap.size w1 W' → World.cell? W' ⟨B, 0, none⟩ = some (.int .u32 o) := fun W' h => Cells.at_ (Cells.below h hT1) 0
  have qhT1_1 : ∀ W', Below w1.heap.size w1 W' → World.cell? W' ⟨B, 1, none⟩ = some (.int .u32 ip) := fun W' h => Cells.at_ (Cells.below h hT1) 1
  have qhT1_2 : ∀ W', Below w1.heap.size w1 W' → World.cell? W' ⟨B, 2, none⟩ = some (.int .i64 b) := fun W' h => Cells.at_ (Cells.below h hT1) 2
  have qhT1_3 : ∀ W', Below w1.heap.size w1 W' → World.cell? W' ⟨B, 3, none⟩ = some (.slice A n c) := fun W' h => Cells.at_ (Cells.below h hT1) 3
  have qt5_0 : ∀ W', Below w1.heap.size w1 W' → World.cell? W' ⟨w.heap.size, 0, none⟩ = some (.int .i64 r.k) := fun W' h => Cells.at_ (Cells.below h t5) 0
  have qt5_1 : ∀ W', Below w1.heap.size w1 W' → World.cell? W' ⟨w.heap.size, 1, none⟩ = some (.int .u8 r.p) := fun W' h => Cells.at_ (Cells.below h t5) 1
  have qt5_2 : ∀ W', Below w1.heap.size w1 W' → World.cell? W' ⟨w.heap.size, 2, none⟩ = some (.int .u32 r.sa) := fun W' h => Cells.at_ (Cells.below h t5) 2
  have qt5_3 : ∀ W', Below w1.heap.size w1 W' → World.cell? W' ⟨w.heap.size, 3, none⟩ = some (.int .i64 r.sb) := fun W' h => Cells.at_ (Cells.below h t5) 3
  have qt5_4 : ∀ W', Below w1.heap.size w1 W' → World.cell? W' ⟨w.heap.size, 4, none⟩ = some (.int .u32 r.da) := fun W' h => Cells.at_ (Cells.below h t5) 4
  have qt5_5 : ∀ W', Below w1.heap.size w1 W' → World.cell? W' ⟨w.heap.size, 5, none⟩ = some (.int .i64 r.db) := fun W' h => Cells.at_ (Cells.below h t5) 5
  have qt5_6 : ∀ W', Below w1.heap.size w1 W' → World.cell? W' ⟨w.heap.size, 6, none⟩ = some (.int .u32 r.e) := fun W' h => Cells.at_ (Cells.below h t5) 6
  have qt5_7 : ∀ W', Below w1.heap.size w1 W' → World.cell? W' ⟨w.heap.size, 7, none⟩ = some (.int .u16 r.f) := fun W' h => Cells.at_ (Cells.below h t5) 7
  have qt5_8 : ∀ W', Below w1.heap.size w1 W' → World.cell? W' ⟨w.heap.size, 8, none⟩ = some (.int .u16 r.t) := fun W' h => Cells.at_ (Cells.below h t5) 8
  have qt5_9 : ∀ W', Below w1.heap.size w1 W' → World.cell? W' ⟨w.heap.size, 9, none⟩ = some (.int .u32 r.ia) := fun W' h => Cells.at_ (Cells.below h t5) 9
  have qt5_10 : ∀ W', Below w1.heap.size w1 W' → World.cell? W' ⟨w.heap.size, 10, none⟩ = some (.int .u16 r.ip) := fun W' h => Cells.at_ (Cells.below h t5) 10
  have bb : Below w1.heap.size w1 w1 := Below.refl _ _
  have T5 := hide t5; have L0 := hide l0; have T1 := hide hT1
  clear l0 t5 hT1
  go_wp2_with ((go_at_call 41; (with_reducible refine (C0.out _ (bstep L0.out (by assumption))).mono ?_); rintro e2 w2 ⟨rfl, b2⟩; have b2' := bstep (by assumption : Below w1.heap.size w1 _) b2; clear b2))
  have L2 := hide (bstep L0.out b2'); have T5' := hide (Cells.below b2' T5.out); have T1' := hide (Cells.below b2' T1.out)
  clear qhT1_0 qhT1_1 qhT1_2 qhT1_3 qt5_0 qt5_1 qt5_2 qt5_3 qt5_4 qt5_5 qt5_6 qt5_7 qt5_8 qt5_9 qt5_10 bb b2' L0 T5 T1
  generalize w2 = w3 at *
  go_loopg [7] n (fun gg sj wr => ∃ kk : Nat, kk ≤ n ∧ n - kk ≤ gg ∧ sj = .int .i64 kk ∧ Aside (Below w3.heap.size w3 wr) ∧ Aside (∀ j (hj : j < kk) (hl : j < l.length), (fun x => dClash o x r) l[j] = false))
  case atStart => exact ⟨0, Nat.zero_le _, by omega, rfl, Below.refl _ w3, fun j hj => absurd hj (Nat.not_lt_zero _)⟩
  case round =>
    obtain ⟨kk, hkk, hg, rfl, BW, AA⟩ := hrel
    have eB := Cells.below BW.out T1'.out; have e5 := Cells.below BW.out T5'.out
    have qeB_0 : ∀ W', Below wr.heap.size wr W' → World.cell? W' ⟨B, 0, none⟩ = some (.int .u32 o) := fun W' h => Cells.at_ (Cells.below h eB) 0
    have qeB_1 : ∀ W', Below wr.heap.size wr W' → World.cell? W' ⟨B, 1, none⟩ = some (.int .u32 ip) := fun W' h => Cells.at_ (Cells.below h eB) 1
    have qeB_2 : ∀ W', Below wr.heap.size wr W' → World.cell? W' ⟨B, 2, none⟩ = some (.int .i64 b) := fun W' h => Cells.at_ (Cells.below h eB) 2
    have qeB_3 : ∀ W', Below wr.heap.size wr W' → World.cell? W' ⟨B, 3, none⟩ = some (.slice A n c) := fun W' h => Cells.at_ (Cells.below h eB) 3
    have qe5_0 : ∀ W', Below wr.heap.size wr W' → World.cell? W' ⟨w.heap.size, 0, none⟩ = some (.int .i64 r.k) := fun W' h => Cells.at_ (Cells.below h e5) 0
    have qe5_1 : ∀ W', Below wr.heap.size wr W' → World.cell? W' ⟨w.heap.size, 1, none⟩ = some (.int .u8 r.p) := fun W' h => Cells.at_ (Cells.below h e5) 1
    have qe5_2 : ∀ W', Below wr.heap.size wr W' → World.cell? W' ⟨w.heap.size, 2, none⟩ = some (.int .u32 r.sa) := fun W' h => Cells.at_ (Cells.below h e5) 2
    have qe5_3 : ∀ W', Below wr.heap.size wr W' → World.cell? W' ⟨w.heap.size, 3, none⟩ = some (.int .i64 r.sb) := fun W' h => Cells.at_ (Cells.below h e5) 3
    have qe5_4 : ∀ W', Below wr.heap.size wr W' → World.cell? W' ⟨w.heap.size, 4, none⟩ = some (.int .u32 r.da) := fun W' h => Cells.at_ (Cells.below h e5) 4
    have qe5_5 : ∀ W', Below wr.heap.size wr W' → World.cell? W' ⟨w.heap.size, 5, none⟩ = some (.int .i64 r.db) := fun W' h => Cells.at_ (Cells.below h e5) 5
    have qe5_6 : ∀ W', Below wr.heap.size wr W' → World.cell? W' ⟨w.heap.size, 6, none⟩ = some (.int .u32 r.e) := fun W' h => Cells.at_ (Cells.below h e5) 6
    have qe5_7 : ∀ W', Below wr.heap.size wr W' → World.cell? W' ⟨w.heap.size, 7, none⟩ = some (.int .u16 r.f) := fun W' h => Cells.at_ (Cells.below h e5) 7
    have qe5_8 : ∀ W', Below wr.heap.size wr W' → World.cell? W' ⟨w.heap.size, 8, none⟩ = some (.int .u16 r.t) := fun W' h => Cells.at_ (Cells.below h e5) 8
    have qe5_9 : ∀ W', Below wr.heap.size wr W' → World.cell? W' ⟨w.heap.size, 9, none⟩ = some (.int .u32 r.ia) := fun W' h => Cells.at_ (Cells.below h e5) 9
    have qe5_10 : ∀ W', Below wr.heap.size wr W' → World.cell? W' ⟨w.heap.size, 10, none⟩ = some (.int .u16 r.ip) := fun W' h => Cells.at_ (Cells.below h e5) 10
    have bb : Below wr.heap.size wr wr := Below.refl _ _
    have bD : ∀ W, Below wr.heap.size wr W → Below wr.heap.size wr W.drew := fun W h => h.drew
    have EB := hide eB
    clear eB e5
    by_cases hlt : kk < n
    · have hltz : (kk : Int) < (n : Int) := by omega
      have hl : kk < l.length := by have := HN.out; omega
      obtain ⟨g, rfl, hg0, hrow⟩ := HR.out (by omega)
      have hcell : ∀ i u, i < 11 → (l[kk]).cells.toList[i]? = some u → ∀ W', Below wr.heap.size wr W' → World.cell? W' ⟨g, kk * 11 + i, none⟩ = some u := fun i u hi hu W' hW => by
        rw [(bstep (bstep L2.out BW.out) hW).cell (p := ⟨g, kk * 11 + i, none⟩) hg0]
        exact hrow kk hl i u hi hu
      obtain ⟨x, hx⟩ : ∃ x, x = l[kk] := ⟨_, rfl⟩
      rw [← hx] at hcell
      have z0 : ∀ W', Below wr.heap.size wr W' → World.cell? W' ⟨g, kk * 11, none⟩ = some (.int .i64 x.k) := hcell 0 _ (by omega) rfl
      have z1 : ∀ W', Below wr.heap.size wr W' → World.cell? W' ⟨g, kk * 11 + 1, none⟩ = some (.int .u8 x.p) := hcell 1 _ (by omega) rfl
      have z2 : ∀ W', Below wr.heap.size wr W' → World.cell? W' ⟨g, kk * 11 + 2, none⟩ = some (.int .u32 x.sa) := hcell 2 _ (by omega) rfl
      have z3 : ∀ W', Below wr.heap.size wr W' → World.cell? W' ⟨g, kk * 11 + 3, none⟩ = some (.int .i64 x.sb) := hcell 3 _ (by omega) rfl
      have z4 : ∀ W', Below wr.heap.size wr W' → World.cell? W' ⟨g, kk * 11 + 4, none⟩ = some (.int .u32 x.da) := hcell 4 _ (by omega) rfl
      have z5 : ∀ W', Below wr.heap.size wr W' → World.cell? W' ⟨g, kk * 11 + 5, none⟩ = some (.int .i64 x.db) := hcell 5 _ (by omega) rfl
      have z6 : ∀ W', Below wr.heap.size wr W' → World.cell? W' ⟨g, kk * 11 + 6, none⟩ = some (.int .u32 x.e) := hcell 6 _ (by omega) rfl
      have z7 : ∀ W', Below wr.heap.size wr W' → World.cell? W' ⟨g, kk * 11 + 7, none⟩ = some (.int .u16 x.f) := hcell 7 _ (by omega) rfl
      have z8 : ∀ W', Below wr.heap.size wr W' → World.cell? W' ⟨g, kk * 11 + 8, none⟩ = some (.int .u16 x.t) := hcell 8 _ (by omega) rfl
      have z9 : ∀ W', Below wr.heap.size wr W' → World.cell? W' ⟨g, kk * 11 + 9, none⟩ = some (.int .u32 x.ia) := hcell 9 _ (by omega) rfl
      have z10 : ∀ W', Below wr.heap.size wr W' → World.cell? W' ⟨g, kk * 11 + 10, none⟩ = some (.int .u16 x.ip) := hcell 10 _ (by omega) rfl
      obtain ⟨z2, hz2⟩ : ∃ z2, z2 = dClash o x r := ⟨_, rfl⟩
      have c3 := fun W (hW : Below w.heap.size w W) => C1.out W x hW
      rw [← hz2] at c3
      have HZ := hide hz2
      have C3 := hide c3; have BW' := hide BW; have A' := hide AA; have HX := hide hx
      clear hcell hx hrow hg0 BW AA c3 hz2
      go_upto_region 8 with fail
      cases z2 with
      | true =>
        refine wp_region_held_drew (S := fun W => Below wr.heap.size wr W) (by kernel_rfl) (bb.drew) (fun hS0 => ?_)
        refine wpAnyH_take (i := 0) (v := ?v0_1) rfl (by kernel_rfl) (by kernel_rfl) (by kernel_rfl) (fun _ _ _ h => h) (Or.inl (And.intro (by kernel_rfl) ?q0_1)) hS0 ?r0_1; (case q0_1 => (intro w hx; (try dsimp only); (try go_simp); (try with_reducible rfl)))
        (try simp only [Act.put, List.setIfInBounds_toArray, List.set_cons_zero, List.set_cons_succ, List.getElem_toArray, List.getElem_cons_succ, List.getElem_cons_zero])
        refine wpAnyH_take (i := 1) (v := ?v1_2) rfl (by kernel_rfl) (by kernel_rfl) (by kernel_rfl) (fun _ _ _ h => h) (Or.inl (And.intro (by kernel_rfl) ?q1_2)) hS0 ?r1_2; (case q1_2 => (intro w hx; (try dsimp only); (try go_simp); (try with_reducible rfl)))
        (try simp only [Act.put, List.setIfInBounds_toArray, List.set_cons_zero, List.set_cons_succ, List.getElem_toArray, List.getElem_cons_succ, List.getElem_cons_zero])
        refine wpAnyH_take (i := 2) (v := ?v2_3) rfl (by kernel_rfl) (by kernel_rfl) (by kernel_rfl) (fun _ _ _ h => h) (Or.inl (And.intro (by kernel_rfl) ?q2_3)) hS0 ?r2_3; (case q2_3 => (intro w hx; (try dsimp only); (try go_simp); (try with_reducible rfl)))
        (try simp only [Act.put, List.setIfInBounds_toArray, List.set_cons_zero, List.set_cons_succ, List.getElem_toArray, List.getElem_cons_succ, List.getElem_cons_zero])
        refine wpAnyH_take (i := 3) (v := ?v3_4) rfl (by kernel_rfl) (by kernel_rfl) (by kernel_rfl) (fun _ _ _ h => h) (Or.inl (And.intro (by kernel_rfl) ?q3_4)) hS0 ?r3_4; (case q3_4 => (intro w hx; (try dsimp only); (try go_simp); (try with_reducible rfl)))
        (try simp only [Act.put, List.setIfInBounds_toArray, List.set_cons_zero, List.set_cons_succ, List.getElem_toArray, List.getElem_cons_succ, List.getElem_cons_zero])
        refine wpAnyH_take (i := 4) (v := ?v4_5) rfl (by kernel_rfl) (by kernel_rfl) (by kernel_rfl) (fun _ _ _ h => h) (Or.inl (And.intro (by kernel_rfl) ?q4_5)) hS0 ?r4_5; (case q4_5 => (intro w hx; (try dsimp only); (try go_simp); (try with_reducible rfl)))
        (try simp only [Act.put, List.setIfInBounds_toArray, List.set_cons_zero, List.set_cons_succ, List.getElem_toArray, List.getElem_cons_succ, List.getElem_cons_zero])
        refine wpAnyH_take (i := 5) (v := ?v5_6) rfl (by kernel_rfl) (by kernel_rfl) (by kernel_rfl) (fun _ _ _ h => h) (Or.inl (And.intro (by kernel_rfl) ?q5_6)) hS0 ?r5_6; (case q5_6 => (intro w hx; (try dsimp only); (try go_simp); (try with_reducible rfl)))
        (try simp only [Act.put, List.setIfInBounds_toArray, List.set_cons_zero, List.set_cons_succ, List.getElem_toArray, List.getElem_cons_succ, List.getElem_cons_zero])
        refine wpAnyH_take (i := 6) (v := ?v6_7) rfl (by kernel_rfl) (by kernel_rfl) (by kernel_rfl) (fun _ _ _ h => h) (Or.inl (And.intro (by kernel_rfl) ?q6_7)) hS0 ?r6_7; (case q6_7 => (intro w hx; (try dsimp only); (try go_simp); (try with_reducible rfl)))
        (try simp only [Act.put, List.setIfInBounds_toArray, List.set_cons_zero, List.set_cons_succ, List.getElem_toArray, List.getElem_cons_succ, List.getElem_cons_zero])
        refine wpAnyH_take (i := 7) (v := ?v7_8) rfl (by kernel_rfl) (by kernel_rfl) (by kernel_rfl) (fun _ _ _ h => h) (Or.inl (And.intro (by kernel_rfl) ?q7_8)) hS0 ?r7_8; (case q7_8 => (intro w hx; (try dsimp only); (try go_simp); (try with_reducible rfl)))
        (try simp only [Act.put, List.setIfInBounds_toArray, List.set_cons_zero, List.set_cons_succ, List.getElem_toArray, List.getElem_cons_succ, List.getElem_cons_zero])
        refine wpAnyH_take (i := 8) (v := ?v8_9) rfl (by kernel_rfl) (by kernel_rfl) (by kernel_rfl) (fun _ _ _ h => h) (Or.inl (And.intro (by kernel_rfl) ?q8_9)) hS0 ?r8_9; (case q8_9 => (intro w hx; (try dsimp only); (try go_simp); (try with_reducible rfl)))
        (try simp only [Act.put, List.setIfInBounds_toArray, List.set_cons_zero, List.set_cons_succ, List.getElem_toArray, List.getElem_cons_succ, List.getElem_cons_zero])
        all_goals refine wpAnyH_ready (rs := [9]) (by kernel_rfl) (by simp) ?_
        all_goals refine AllReadyH.cons rfl (fun K hK => ?_) AllReadyH.nil
        all_goals (rw [if_pos (by kernel_rfl)]; (try simp only [List.getElem_toArray, List.getElem_cons_succ, List.getElem_cons_zero]); go_simp; ((with_reducible refine (C3.out _ (bstep (bstep L2.out BW'.out.out) hS0)).mono ?_); rintro e wq ⟨rfl, bq⟩); (try go_wp2_with fail); refine hK.out _ _ (by (first | with_reducible exact hS0 | exact bstep hS0 bq)) (fun hS0 => ?_); clear hK K; (try simp only [Act.put, List.setIfInBounds_toArray, List.set_cons_zero, List.set_cons_succ, List.getElem_toArray, List.getElem_cons_succ, List.getElem_cons_zero]))
        all_goals refine wpAnyH_done (by kernel_rfl) ?_ _
        go_wp2_with fail
        go_ret
        rw [show rc = 11 by rw [HC.out, if_pos (List.any_eq_true.2 ⟨l[kk], List.getElem_mem hl, by rw [← HX.out]; exact HZ.out.symm⟩)]]
        rw [HL.out, if_neg (by rw [HC.out, if_pos (List.any_eq_true.2 ⟨l[kk], List.getElem_mem hl, by rw [← HX.out]; exact HZ.out.symm⟩)]; decide)]
        exact DPost.keep H.out (bstep (bstep L2.out BW'.out.out) hS0)
      | false =>
        refine wp_region_held_drew (S := fun W => Below wr.heap.size wr W) (by kernel_rfl) (bb.drew) (fun hS0 => ?_)
        refine wpAnyH_take (i := 0) (v := ?v0_10) rfl (by kernel_rfl) (by kernel_rfl) (by kernel_rfl) (fun _ _ _ h => h) (Or.inl (And.intro (by kernel_rfl) ?q0_10)) hS0 ?r0_10; (case q0_10 => (intro w hx; (try dsimp only); (try go_simp); (try with_reducible rfl)))
        (try simp only [Act.put, List.setIfInBounds_toArray, List.set_cons_zero, List.set_cons_succ, List.getElem_toArray, List.getElem_cons_succ, List.getElem_cons_zero])
        refine wpAnyH_take (i := 1) (v := ?v1_11) rfl (by kernel_rfl) (by kernel_rfl) (by kernel_rfl) (fun _ _ _ h => h) (Or.inl (And.intro (by kernel_rfl) ?q1_11)) hS0 ?r1_11; (case q1_11 => (intro w hx; (try dsimp only); (try go_simp); (try with_reducible rfl)))
        (try simp only [Act.put, List.setIfInBounds_toArray, List.set_cons_zero, List.set_cons_succ, List.getElem_toArray, List.getElem_cons_succ, List.getElem_cons_zero])
        refine wpAnyH_take (i := 2) (v := ?v2_12) rfl (by kernel_rfl) (by kernel_rfl) (by kernel_rfl) (fun _ _ _ h => h) (Or.inl (And.intro (by kernel_rfl) ?q2_12)) hS0 ?r2_12; (case q2_12 => (intro w hx; (try dsimp only); (try go_simp); (try with_reducible rfl)))
        (try simp only [Act.put, List.setIfInBounds_toArray, List.set_cons_zero, List.set_cons_succ, List.getElem_toArray, List.getElem_cons_succ, List.getElem_cons_zero])
        refine wpAnyH_take (i := 3) (v := ?v3_13) rfl (by kernel_rfl) (by kernel_rfl) (by kernel_rfl) (fun _ _ _ h => h) (Or.inl (And.intro (by kernel_rfl) ?q3_13)) hS0 ?r3_13; (case q3_13 => (intro w hx; (try dsimp only); (try go_simp); (try with_reducible rfl)))
        (try simp only [Act.put, List.setIfInBounds_toArray, List.set_cons_zero, List.set_cons_succ, List.getElem_toArray, List.getElem_cons_succ, List.getElem_cons_zero])
        refine wpAnyH_take (i := 4) (v := ?v4_14) rfl (by kernel_rfl) (by kernel_rfl) (by kernel_rfl) (fun _ _ _ h => h) (Or.inl (And.intro (by kernel_rfl) ?q4_14)) hS0 ?r4_14; (case q4_14 => (intro w hx; (try dsimp only); (try go_simp); (try with_reducible rfl)))
        (try simp only [Act.put, List.setIfInBounds_toArray, List.set_cons_zero, List.set_cons_succ, List.getElem_toArray, List.getElem_cons_succ, List.getElem_cons_zero])
        refine wpAnyH_take (i := 5) (v := ?v5_15) rfl (by kernel_rfl) (by kernel_rfl) (by kernel_rfl) (fun _ _ _ h => h) (Or.inl (And.intro (by kernel_rfl) ?q5_15)) hS0 ?r5_15; (case q5_15 => (intro w hx; (try dsimp only); (try go_simp); (try with_reducible rfl)))
        (try simp only [Act.put, List.setIfInBounds_toArray, List.set_cons_zero, List.set_cons_succ, List.getElem_toArray, List.getElem_cons_succ, List.getElem_cons_zero])
        refine wpAnyH_take (i := 6) (v := ?v6_16) rfl (by kernel_rfl) (by kernel_rfl) (by kernel_rfl) (fun _ _ _ h => h) (Or.inl (And.intro (by kernel_rfl) ?q6_16)) hS0 ?r6_16; (case q6_16 => (intro w hx; (try dsimp only); (try go_simp); (try with_reducible rfl)))
        (try simp only [Act.put, List.setIfInBounds_toArray, List.set_cons_zero, List.set_cons_succ, List.getElem_toArray, List.getElem_cons_succ, List.getElem_cons_zero])
        refine wpAnyH_take (i := 7) (v := ?v7_17) rfl (by kernel_rfl) (by kernel_rfl) (by kernel_rfl) (fun _ _ _ h => h) (Or.inl (And.intro (by kernel_rfl) ?q7_17)) hS0 ?r7_17; (case q7_17 => (intro w hx; (try dsimp only); (try go_simp); (try with_reducible rfl)))
        (try simp only [Act.put, List.setIfInBounds_toArray, List.set_cons_zero, List.set_cons_succ, List.getElem_toArray, List.getElem_cons_succ, List.getElem_cons_zero])
        refine wpAnyH_take (i := 8) (v := ?v8_18) rfl (by kernel_rfl) (by kernel_rfl) (by kernel_rfl) (fun _ _ _ h => h) (Or.inl (And.intro (by kernel_rfl) ?q8_18)) hS0 ?r8_18; (case q8_18 => (intro w hx; (try dsimp only); (try go_simp); (try with_reducible rfl)))
        (try simp only [Act.put, List.setIfInBounds_toArray, List.set_cons_zero, List.set_cons_succ, List.getElem_toArray, List.getElem_cons_succ, List.getElem_cons_zero])
        all_goals refine wpAnyH_ready (rs := [9]) (by kernel_rfl) (by simp) ?_
        all_goals refine AllReadyH.cons rfl (fun K hK => ?_) AllReadyH.nil
        all_goals (rw [if_pos (by kernel_rfl)]; (try simp only [List.getElem_toArray, List.getElem_cons_succ, List.getElem_cons_zero]); go_simp; ((with_reducible refine (C3.out _ (bstep (bstep L2.out BW'.out.out) hS0)).mono ?_); rintro e wq ⟨rfl, bq⟩); (try go_wp2_with fail); refine hK.out _ _ (by (first | with_reducible exact hS0 | exact bstep hS0 bq)) (fun hS0 => ?_); clear hK K; (try simp only [Act.put, List.setIfInBounds_toArray, List.set_cons_zero, List.set_cons_succ, List.getElem_toArray, List.getElem_cons_succ, List.getElem_cons_zero]))
        all_goals refine wpAnyH_done (by kernel_rfl) ?_ _
        go_wp2_with fail
        go_roundg (n - (kk + 1))
        case measure => omega
        case rel =>
          refine ⟨kk + 1, by omega, by omega, by go_num, (show Aside _ from bstep BW'.out.out hS0), (show Aside _ from fun j hj hl => ?_)⟩
          by_cases e : j = kk
          · subst e
            show dClash o l[j] r = false
            rw [← HX.out]; exact HZ.out.symm
          · exact A'.out.out j (by omega) hl
    · have hltz : ¬ (kk : Int) < (n : Int) := by omega
      have : kk = n := by omega
      subst this
      have hrc0 : rc = 0 := by
        rw [HC.out, if_neg]
        rw [(firstR_miss (p := fun x => dClash o x r) (l := l) (fun j hl => AA.out j (by rw [HN.out]; exact hl) hl)).2]
        simp
      have HL' := hide (show L = l.take i ++ r :: l.drop i by rw [HL.out, if_pos hrc0])
      subst hrc0
      have LR := hide (bstep L2.out BW.out)
      clear HL HC AA C1 C0
      have hAA := hide (show (A = none ∧ kk = 0 ∧ c = 0) ∨ ∃ g, A = some (⟨g, 0, none⟩ : Addr) ∧ kk ≤ c ∧ c ≤ 9223372036854775807 from by
        have hv := HV.out
        have hn := HN.out
        rcases H.out.row.2 with ⟨h1, h2⟩ | ⟨g, c', cur, h1, _, _, h2, h3, _⟩
        · rw [hv] at h1; cases h1; exact Or.inl ⟨rfl, rfl, rfl⟩
        · rw [hv] at h1; cases h1; exact Or.inr ⟨g, rfl, by omega, by unfold maxLen at h3; omega⟩)
      go_upto_region 10 with fail
      clear bb bD HT T1' hltz
      have bw0 : Below wr.heap.size wr wr.drew := (Below.refl _ _).drew
      have fz : ∀ W' i, Below wr.heap.size wr W' → World.frozen? W' ⟨B, i, none⟩ = false := fun W' i h => Cells.free (Cells.below h EB.out) i
      have LT := hide (show ([] : List Rule).length + (l.take i).length ≤ 2000 by have := HN.out; have := hn63; simp only [List.length_take, List.length_nil]; omega)
      have LT2 := hide (show (([] : List Rule) ++ l.take i).length + [r].length ≤ 2000 by have := HN.out; have := hn63; simp only [List.length_append, List.length_take, List.length_nil, List.length_cons]; omega)
      have LT3 := hide (show ((([] : List Rule) ++ l.take i) ++ [r]).length + (l.drop i).length ≤ 2000 by have := HN.out; have := hn63; simp only [List.length_append, List.length_take, List.length_drop, List.length_nil, List.length_cons]; omega)
      rcases hAA.out with ⟨rfl, rfl, rfl⟩ | ⟨g, rfl, hkc, hc63⟩
      · have : i = 0 := by have := HI.out; omega
        subst this
        have DN := hide (show l.drop 0 = [] from List.length_eq_zero_iff.1 (by have := HN.out; rw [List.drop_zero]; omega))
        focus
          refine wp_region_J [20] (fun W => Below wr.heap.size wr W) (by kernel_rfl) (bw0) (fun hS0 => ?_)
          refine wpAnyJ_take (i := 0) (v := ?v0_19) rfl (by kernel_rfl) (by kernel_rfl) (by kernel_rfl) (by kernel_rfl) (fun _ _ _ h => h) (Or.inl (And.intro (by kernel_rfl) ?q0_19)) hS0 ?r0_19; (case q0_19 => (intro w hx; (try dsimp only); (try go_simp); (try with_reducible rfl)))
          (try simp only [Act.put, List.setIfInBounds_toArray, List.set_cons_zero, List.set_cons_succ, List.getElem_toArray, List.getElem_cons_succ, List.getElem_cons_zero])
          refine wpAnyJ_take (i := 1) (v := ?v1_20) rfl (by kernel_rfl) (by kernel_rfl) (by kernel_rfl) (by kernel_rfl) (fun _ _ _ h => h) (Or.inl (And.intro (by kernel_rfl) ?q1_20)) hS0 ?r1_20; (case q1_20 => (intro w hx; (try dsimp only); (try go_simp); (try with_reducible rfl)))
          (try simp only [Act.put, List.setIfInBounds_toArray, List.set_cons_zero, List.set_cons_succ, List.getElem_toArray, List.getElem_cons_succ, List.getElem_cons_zero])
          refine wpAnyJ_take (i := 2) (v := ?v2_21) rfl (by kernel_rfl) (by kernel_rfl) (by kernel_rfl) (by kernel_rfl) (fun _ _ _ h => h) (Or.inl (And.intro (by kernel_rfl) ?q2_21)) hS0 ?r2_21; (case q2_21 => (intro w hx; (try dsimp only); (try go_simp); (try with_reducible rfl)))
          (try simp only [Act.put, List.setIfInBounds_toArray, List.set_cons_zero, List.set_cons_succ, List.getElem_toArray, List.getElem_cons_succ, List.getElem_cons_zero])
          refine wpAnyJ_take (i := 3) (v := ?v3_22) rfl (by kernel_rfl) (by kernel_rfl) (by kernel_rfl) (by kernel_rfl) (fun _ _ _ h => h) (Or.inl (And.intro (by kernel_rfl) ?q3_22)) hS0 ?r3_22; (case q3_22 => (intro w hx; (try dsimp only); (try go_simp); (try with_reducible rfl)))
          (try simp only [Act.put, List.setIfInBounds_toArray, List.set_cons_zero, List.set_cons_succ, List.getElem_toArray, List.getElem_cons_succ, List.getElem_cons_zero])
          refine wpAnyJ_take (i := 4) (v := ?v4_23) rfl (by kernel_rfl) (by kernel_rfl) (by kernel_rfl) (by kernel_rfl) (fun _ _ _ h => h) (Or.inl (And.intro (by kernel_rfl) ?q4_23)) hS0 ?r4_23; (case q4_23 => (intro w hx; (try dsimp only); (try go_simp); (try with_reducible rfl)))
          (try simp only [Act.put, List.setIfInBounds_toArray, List.set_cons_zero, List.set_cons_succ, List.getElem_toArray, List.getElem_cons_succ, List.getElem_cons_zero])
          refine wpAnyJ_take (i := 5) (v := ?v5_24) rfl (by kernel_rfl) (by kernel_rfl) (by kernel_rfl) (by kernel_rfl) (fun _ _ _ h => h) (Or.inl (And.intro (by kernel_rfl) ?q5_24)) hS0 ?r5_24; (case q5_24 => (intro w hx; (try dsimp only); (try go_simp); (try with_reducible rfl)))
          (try simp only [Act.put, List.setIfInBounds_toArray, List.set_cons_zero, List.set_cons_succ, List.getElem_toArray, List.getElem_cons_succ, List.getElem_cons_zero])
          refine wpAnyJ_take (i := 6) (v := ?v6_25) rfl (by kernel_rfl) (by kernel_rfl) (by kernel_rfl) (by kernel_rfl) (fun _ _ _ h => h) (Or.inl (And.intro (by kernel_rfl) ?q6_25)) hS0 ?r6_25; (case q6_25 => (intro w hx; (try dsimp only); (try go_simp); (try with_reducible rfl)))
          (try simp only [Act.put, List.setIfInBounds_toArray, List.set_cons_zero, List.set_cons_succ, List.getElem_toArray, List.getElem_cons_succ, List.getElem_cons_zero])
          refine wpAnyJ_take (i := 8) (v := ?v8_26) rfl (by kernel_rfl) (by kernel_rfl) (by kernel_rfl) (by kernel_rfl) (fun _ _ _ h => h) (Or.inl (And.intro (by kernel_rfl) ?q8_26)) hS0 ?r8_26; (case q8_26 => (intro w hx; (try dsimp only); (try go_simp); (try with_reducible rfl)))
          (try simp only [Act.put, List.setIfInBounds_toArray, List.set_cons_zero, List.set_cons_succ, List.getElem_toArray, List.getElem_cons_succ, List.getElem_cons_zero])
          refine wpAnyJ_take (i := 11) (v := ?v11_27) rfl (by kernel_rfl) (by kernel_rfl) (by kernel_rfl) (by kernel_rfl) (fun _ _ _ h => h) (Or.inl (And.intro (by kernel_rfl) ?q11_27)) hS0 ?r11_27; (case q11_27 => (intro w hx; (try dsimp only); (try go_simp); (try with_reducible rfl)))
          (try simp only [Act.put, List.setIfInBounds_toArray, List.set_cons_zero, List.set_cons_succ, List.getElem_toArray, List.getElem_cons_succ, List.getElem_cons_zero])
          refine wpAnyJ_take (i := 12) (v := ?v12_28) rfl (by kernel_rfl) (by kernel_rfl) (by kernel_rfl) (by kernel_rfl) (fun _ _ _ h => h) (Or.inl (And.intro (by kernel_rfl) ?q12_28)) hS0 ?r12_28; (case q12_28 => (intro w hx; (try dsimp only); (try go_simp); (try with_reducible rfl)))
          (try simp only [Act.put, List.setIfInBounds_toArray, List.set_cons_zero, List.set_cons_succ, List.getElem_toArray, List.getElem_cons_succ, List.getElem_cons_zero])
          refine wpAnyJ_take (i := 13) (v := ?v13_29) rfl (by kernel_rfl) (by kernel_rfl) (by kernel_rfl) (by kernel_rfl) (fun _ _ _ h => h) (Or.inl (And.intro (by kernel_rfl) ?q13_29)) hS0 ?r13_29; (case q13_29 => (intro w hx; (try dsimp only); (try go_simp); (try with_reducible rfl)))
          (try simp only [Act.put, List.setIfInBounds_toArray, List.set_cons_zero, List.set_cons_succ, List.getElem_toArray, List.getElem_cons_succ, List.getElem_cons_zero])
          refine wpAnyJ_take (i := 14) (v := ?v14_30) rfl (by kernel_rfl) (by kernel_rfl) (by kernel_rfl) (by kernel_rfl) (fun _ _ _ h => h) (Or.inl (And.intro (by kernel_rfl) ?q14_30)) hS0 ?r14_30; (case q14_30 => (intro w hx; (try dsimp only); (try go_simp); (try with_reducible rfl)))
          (try simp only [Act.put, List.setIfInBounds_toArray, List.set_cons_zero, List.set_cons_succ, List.getElem_toArray, List.getElem_cons_succ, List.getElem_cons_zero])
          refine wpAnyJ_take (i := 15) (v := ?v15_31) rfl (by kernel_rfl) (by kernel_rfl) (by kernel_rfl) (by kernel_rfl) (fun _ _ _ h => h) (Or.inl (And.intro (by kernel_rfl) ?q15_31)) hS0 ?r15_31; (case q15_31 => (intro w hx; (try dsimp only); (try go_simp); (try with_reducible rfl)))
          (try simp only [Act.put, List.setIfInBounds_toArray, List.set_cons_zero, List.set_cons_succ, List.getElem_toArray, List.getElem_cons_succ, List.getElem_cons_zero])
          refine wpAnyJ_take (i := 16) (v := ?v16_32) rfl (by kernel_rfl) (by kernel_rfl) (by kernel_rfl) (by kernel_rfl) (fun _ _ _ h => h) (Or.inl (And.intro (by kernel_rfl) ?q16_32)) hS0 ?r16_32; (case q16_32 => (intro w hx; (try dsimp only); (try go_simp); (try with_reducible rfl)))
          (try simp only [Act.put, List.setIfInBounds_toArray, List.set_cons_zero, List.set_cons_succ, List.getElem_toArray, List.getElem_cons_succ, List.getElem_cons_zero])
          refine wpAnyJ_ready (rs := [7, 9]) (by kernel_rfl) (by simp) ?_
          refine (AllReadyJ.cons rfl (fun K hK => ?_) (AllReadyJ.cons rfl (fun K hK => ?_) AllReadyJ.nil))
          (focus (refine step_app rfl (.const (.slice none 0 0)) (.tmp 56) rfl (.slice none 0 0) _ rfl rfl [] (l.take 0) (RR.nil _) (Or.inl ⟨rfl, by simp⟩) LT.out ?_; intro A1 n1 c1 w7 r7 g7 o7; have bq := Below.app hS0 g7 (fun k hk => by cases hk) hS0.size; have k7 := Below.app (Below.refl _ _) g7 (fun k hk => by cases hk) (Nat.le_refl _); have q7 := own_app o7 (fun k hk => by cases hk) hS0.size))
          (focus (try go_wp2_with fail))
          refine hK.out _ _ ?hs (fun hS0 => ?_)
          case hs => (first | with_reducible exact hS0 | with_reducible exact bq | exact bstep hS0 (fresh_below _ _))
          clear hK K
          (try simp only [Act.put, List.setIfInBounds_toArray, List.set_cons_zero, List.set_cons_succ, List.getElem_toArray, List.getElem_cons_succ, List.getElem_cons_zero])
          refine wpAnyJ_ready (rs := [9]) (by kernel_rfl) (by simp) ?_
          refine (AllReadyJ.cons rfl (fun K hK => ?_) AllReadyJ.nil)
          rw [if_pos (by kernel_rfl)]
          (try simp only [List.getElem_toArray, List.getElem_cons_succ, List.getElem_cons_zero])
          (focus go_simp)
          refine hK.out _ _ ?hs (fun hS0 => ?_)
          case hs => (first | with_reducible exact hS0 | with_reducible exact bq | exact bstep hS0 (fresh_below _ _))
          clear hK K
          (try simp only [Act.put, List.setIfInBounds_toArray, List.set_cons_zero, List.set_cons_succ, List.getElem_toArray, List.getElem_cons_succ, List.getElem_cons_zero])
          refine wpAnyJ_ready (rs := [10]) (by kernel_rfl) (by simp) ?_
          refine (AllReadyJ.cons rfl (fun K hK => ?_) AllReadyJ.nil)
          (focus (refine step_app rfl (.tmp 57) (.tmp 59) rfl _ _ rfl rfl _ [r] (by first | exact r7 | exact RR.below (fresh_below _ _) r7 | exact RR.below r7 (fresh_below _ _)) (by first | exact SrcR.one (Cells.new _ _ _) | exact SrcR.one (Cells.below k7 (Cells.new _ _ _))) LT2.out ?_; intro A2 n2 c2 w8 r8 g8 o8; have bq := Below.app hS0 g8 q7 hS0.size; have q8 := own_app o8 q7 hS0.size))
          (focus (try go_wp2_with fail))
          refine hK.out _ _ ?hs (fun hS0 => ?_)
          case hs => (first | with_reducible exact hS0 | with_reducible exact bq | exact bstep hS0 (fresh_below _ _))
          clear hK K
          (try simp only [Act.put, List.setIfInBounds_toArray, List.set_cons_zero, List.set_cons_succ, List.getElem_toArray, List.getElem_cons_succ, List.getElem_cons_zero])
          refine wpAnyJ_ready (rs := [17]) (by kernel_rfl) (by simp) ?_
          refine (AllReadyJ.cons rfl (fun K hK => ?_) AllReadyJ.nil)
          (focus (refine step_app rfl (.tmp 60) (.tmp 66) rfl _ _ rfl rfl _ (l.drop 0) r8 (Or.inl ⟨rfl, DN.out⟩) LT3.out ?_; intro A3 n3 c3 w9 r9 g9 o9; have bq := Below.app hS0 g9 q8 hS0.size; have q9 := own_app o9 q8 hS0.size))
          (focus (try go_wp2_with fail))
          refine hK.out _ _ ?hs (fun hS0 => ?_)
          case hs => (first | with_reducible exact hS0 | with_reducible exact bq | exact bstep hS0 (fresh_below _ _))
          clear hK K
          (try simp only [Act.put, List.setIfInBounds_toArray, List.set_cons_zero, List.set_cons_succ, List.getElem_toArray, List.getElem_cons_succ, List.getElem_cons_zero])
          refine wpAnyJ_ready (rs := [18]) (by kernel_rfl) (by simp) ?_
          refine (AllReadyJ.cons rfl (fun K hK => ?_) AllReadyJ.nil)
          rw [if_pos (by kernel_rfl)]
          (try simp only [List.getElem_toArray, List.getElem_cons_succ, List.getElem_cons_zero])
          (focus go_simp)
          refine hK.out _ _ ?hs (fun hS0 => ?_)
          case hs => (first | with_reducible exact hS0 | with_reducible exact bq | exact bstep hS0 (fresh_below _ _))
          clear hK K
          (try simp only [Act.put, List.setIfInBounds_toArray, List.set_cons_zero, List.set_cons_succ, List.getElem_toArray, List.getElem_cons_succ, List.getElem_cons_zero])
          refine wpAnyJ_take (i := 19) (v := ?v19_33) rfl (by kernel_rfl) (by kernel_rfl) (by kernel_rfl) (by kernel_rfl) (fun _ _ _ h => h) (Or.inl (And.intro (by kernel_rfl) ?q19_33)) hS0 ?r19_33; (case q19_33 => (intro w hx; (try dsimp only); (try go_simp); (try with_reducible rfl)))
          (try simp only [Act.put, List.setIfInBounds_toArray, List.set_cons_zero, List.set_cons_succ, List.getElem_toArray, List.getElem_cons_succ, List.getElem_cons_zero])
          refine wpAnyJ_ready (rs := [20]) (by kernel_rfl) (by simp) ?_
          refine (AllReadyJ.last rfl (by kernel_rfl) (fun K hK => ?_) AllReadyJ.nil)
          rw [if_pos (by kernel_rfl)]
          (try simp only [List.getElem_toArray, List.getElem_cons_succ, List.getElem_cons_zero])
          (focus go_simp)
          refine hK.out _ _ ?_
          clear hK K
          (try simp only [Act.put, List.setIfInBounds_toArray, List.set_cons_zero, List.set_cons_succ, List.getElem_toArray, List.getElem_cons_succ, List.getElem_cons_zero])
          refine wpAnyJ_done (by kernel_rfl) ?_ _
          rotate_left 1
          rw [if_pos (by kernel_rfl)]
          (try simp only [List.getElem_toArray, List.getElem_cons_succ, List.getElem_cons_zero])
          (focus go_simp)
          refine hK.out _ _ ?hs (fun hS0 => ?_)
          case hs => (first | with_reducible exact hS0 | with_reducible exact bq | exact bstep hS0 (fresh_below _ _))
          clear hK K
          (try simp only [Act.put, List.setIfInBounds_toArray, List.set_cons_zero, List.set_cons_succ, List.getElem_toArray, List.getElem_cons_succ, List.getElem_cons_zero])
          refine wpAnyJ_ready (rs := [7]) (by kernel_rfl) (by simp) ?_
          refine (AllReadyJ.cons rfl (fun K hK => ?_) AllReadyJ.nil)
          (focus (refine step_app rfl (.const (.slice none 0 0)) (.tmp 56) rfl (.slice none 0 0) _ rfl rfl [] (l.take 0) (RR.nil _) (Or.inl ⟨rfl, by simp⟩) LT.out ?_; intro A1 n1 c1 w7 r7 g7 o7; have bq := Below.app hS0 g7 (fun k hk => by cases hk) hS0.size; have k7 := Below.app (Below.refl _ _) g7 (fun k hk => by cases hk) (Nat.le_refl _); have q7 := own_app o7 (fun k hk => by cases hk) hS0.size))
          (focus (try go_wp2_with fail))
          refine hK.out _ _ ?hs (fun hS0 => ?_)
          case hs => (first | with_reducible exact hS0 | with_reducible exact bq | exact bstep hS0 (fresh_below _ _))
          clear hK K
          (try simp only [Act.put, List.setIfInBounds_toArray, List.set_cons_zero, List.set_cons_succ, List.getElem_toArray, List.getElem_cons_succ, List.getElem_cons_zero])
          refine wpAnyJ_ready (rs := [10]) (by kernel_rfl) (by simp) ?_
          refine (AllReadyJ.cons rfl (fun K hK => ?_) AllReadyJ.nil)
          (focus (refine step_app rfl (.tmp 57) (.tmp 59) rfl _ _ rfl rfl _ [r] (by first | exact r7 | exact RR.below (fresh_below _ _) r7 | exact RR.below r7 (fresh_below _ _)) (by first | exact SrcR.one (Cells.new _ _ _) | exact SrcR.one (Cells.below k7 (Cells.new _ _ _))) LT2.out ?_; intro A2 n2 c2 w8 r8 g8 o8; have bq := Below.app hS0 g8 q7 hS0.size; have q8 := own_app o8 q7 hS0.size))
          (focus (try go_wp2_with fail))
          refine hK.out _ _ ?hs (fun hS0 => ?_)
          case hs => (first | with_reducible exact hS0 | with_reducible exact bq | exact bstep hS0 (fresh_below _ _))
          clear hK K
          (try simp only [Act.put, List.setIfInBounds_toArray, List.set_cons_zero, List.set_cons_succ, List.getElem_toArray, List.getElem_cons_succ, List.getElem_cons_zero])
          refine wpAnyJ_ready (rs := [17]) (by kernel_rfl) (by simp) ?_
          refine (AllReadyJ.cons rfl (fun K hK => ?_) AllReadyJ.nil)
          (focus (refine step_app rfl (.tmp 60) (.tmp 66) rfl _ _ rfl rfl _ (l.drop 0) r8 (Or.inl ⟨rfl, DN.out⟩) LT3.out ?_; intro A3 n3 c3 w9 r9 g9 o9; have bq := Below.app hS0 g9 q8 hS0.size; have q9 := own_app o9 q8 hS0.size))
          (focus (try go_wp2_with fail))
          refine hK.out _ _ ?hs (fun hS0 => ?_)
          case hs => (first | with_reducible exact hS0 | with_reducible exact bq | exact bstep hS0 (fresh_below _ _))
          clear hK K
          (try simp only [Act.put, List.setIfInBounds_toArray, List.set_cons_zero, List.set_cons_succ, List.getElem_toArray, List.getElem_cons_succ, List.getElem_cons_zero])
          refine wpAnyJ_ready (rs := [18]) (by kernel_rfl) (by simp) ?_
          refine (AllReadyJ.cons rfl (fun K hK => ?_) AllReadyJ.nil)
          rw [if_pos (by kernel_rfl)]
          (try simp only [List.getElem_toArray, List.getElem_cons_succ, List.getElem_cons_zero])
          (focus go_simp)
          refine hK.out _ _ ?hs (fun hS0 => ?_)
          case hs => (first | with_reducible exact hS0 | with_reducible exact bq | exact bstep hS0 (fresh_below _ _))
          clear hK K
          (try simp only [Act.put, List.setIfInBounds_toArray, List.set_cons_zero, List.set_cons_succ, List.getElem_toArray, List.getElem_cons_succ, List.getElem_cons_zero])
          refine wpAnyJ_take (i := 19) (v := ?v19_34) rfl (by kernel_rfl) (by kernel_rfl) (by kernel_rfl) (by kernel_rfl) (fun _ _ _ h => h) (Or.inl (And.intro (by kernel_rfl) ?q19_34)) hS0 ?r19_34; (case q19_34 => (intro w hx; (try dsimp only); (try go_simp); (try with_reducible rfl)))
          (try simp only [Act.put, List.setIfInBounds_toArray, List.set_cons_zero, List.set_cons_succ, List.getElem_toArray, List.getElem_cons_succ, List.getElem_cons_zero])
          refine wpAnyJ_ready (rs := [20]) (by kernel_rfl) (by simp) ?_
          refine (AllReadyJ.last rfl (by kernel_rfl) (fun K hK => ?_) AllReadyJ.nil)
          rw [if_pos (by kernel_rfl)]
          (try simp only [List.getElem_toArray, List.getElem_cons_succ, List.getElem_cons_zero])
          (focus go_simp)
          refine hK.out _ _ ?_
          clear hK K
          (try simp only [Act.put, List.setIfInBounds_toArray, List.set_cons_zero, List.set_cons_succ, List.getElem_toArray, List.getElem_cons_succ, List.getElem_cons_zero])
          refine wpAnyJ_done (by kernel_rfl) ?_ _
          rotate_left 1
        all_goals
          have r9' : RR w9 (.slice A3 n3 c3) L := by rw [HL'.out]; simpa using r9
          have hbw : B < wr.heap.size := Nat.lt_of_lt_of_le HB.out LR.out.size
          have ho9 : Only (fun k => k = B) w9 (w9.setCell ⟨B, 3, none⟩ (.slice A3 n3 c3)) := Only.setAt (Only.refl _ _) 3 _ (Or.inl rfl)
          have FIN := hide (show DPost w B o ip b v L (.int .i64 0) (.returned (.int .i64 0)) (w9.setCell ⟨B, 3, none⟩ (.slice A3 n3 c3)) from
            ⟨rfl, _, ⟨by have h := Cells.set_ (Cells.below hS0 EB.out) 3 (.slice A3 n3 c3); simpa [Doc] using h, r9'.only ho9 (fun g hg e => by have := q9 g hg; omega), fun e => by have := q9 B e; omega⟩,
              Only.setAt (Only.then (Only.of_below LR.out (Nat.le_refl _)) (hS0.mono (Nat.le_refl _))) 3 _ (Or.inl (Or.inl rfl)), fun g hg => Or.inr (Nat.le_trans LR.out.size (q9 g hg))⟩)
          clear r9' ho9 o7 o8 o9 g7 g8 g9 r7 r8 r9 q7 q8 q9
          go_wp2_with fail
          go_ret
          exact FIN.out
      · obtain ⟨AD, hAD⟩ : ∃ AD : Addr, (if c = i then some (⟨g, 0, none⟩ : Addr) else some ⟨g, i * 11, none⟩) = some AD := by split <;> exact ⟨_, rfl⟩
        have hic : i ≤ c := by have := HI.out; omega
        focus
          refine wp_region_J [20] (fun W => Below wr.heap.size wr W) (by kernel_rfl) (bw0) (fun hS0 => ?_)
          refine wpAnyJ_take (i := 0) (v := ?v0_35) rfl (by kernel_rfl) (by kernel_rfl) (by kernel_rfl) (by kernel_rfl) (fun _ _ _ h => h) (Or.inl (And.intro (by kernel_rfl) ?q0_35)) hS0 ?r0_35; (case q0_35 => (intro w hx; (try dsimp only); (try go_simp); (try with_reducible rfl)))
          (try simp only [Act.put, List.setIfInBounds_toArray, List.set_cons_zero, List.set_cons_succ, List.getElem_toArray, List.getElem_cons_succ, List.getElem_cons_zero])
          refine wpAnyJ_take (i := 1) (v := ?v1_36) rfl (by kernel_rfl) (by kernel_rfl) (by kernel_rfl) (by kernel_rfl) (fun _ _ _ h => h) (Or.inl (And.intro (by kernel_rfl) ?q1_36)) hS0 ?r1_36; (case q1_36 => (intro w hx; (try dsimp only); (try go_simp); (try with_reducible rfl)))
          (try simp only [Act.put, List.setIfInBounds_toArray, List.set_cons_zero, List.set_cons_succ, List.getElem_toArray, List.getElem_cons_succ, List.getElem_cons_zero])
          refine wpAnyJ_take (i := 2) (v := ?v2_37) rfl (by kernel_rfl) (by kernel_rfl) (by kernel_rfl) (by kernel_rfl) (fun _ _ _ h => h) (Or.inl (And.intro (by kernel_rfl) ?q2_37)) hS0 ?r2_37; (case q2_37 => (intro w hx; (try dsimp only); (try go_simp); (try with_reducible rfl)))
          (try simp only [Act.put, List.setIfInBounds_toArray, List.set_cons_zero, List.set_cons_succ, List.getElem_toArray, List.getElem_cons_succ, List.getElem_cons_zero])
          refine wpAnyJ_take (i := 3) (v := ?v3_38) rfl (by kernel_rfl) (by kernel_rfl) (by kernel_rfl) (by kernel_rfl) (fun _ _ _ h => h) (Or.inl (And.intro (by kernel_rfl) ?q3_38)) hS0 ?r3_38; (case q3_38 => (intro w hx; (try dsimp only); (try go_simp); (try with_reducible rfl)))
          (try simp only [Act.put, List.setIfInBounds_toArray, List.set_cons_zero, List.set_cons_succ, List.getElem_toArray, List.getElem_cons_succ, List.getElem_cons_zero])
          refine wpAnyJ_take (i := 4) (v := ?v4_39) rfl (by kernel_rfl) (by kernel_rfl) (by kernel_rfl) (by kernel_rfl) (fun _ _ _ h => h) (Or.inl (And.intro (by kernel_rfl) ?q4_39)) hS0 ?r4_39; (case q4_39 => (intro w hx; (try dsimp only); (try go_simp); (try with_reducible rfl)))
          (try simp only [Act.put, List.setIfInBounds_toArray, List.set_cons_zero, List.set_cons_succ, List.getElem_toArray, List.getElem_cons_succ, List.getElem_cons_zero])
          refine wpAnyJ_take (i := 5) (v := ?v5_40) rfl (by kernel_rfl) (by kernel_rfl) (by kernel_rfl) (by kernel_rfl) (fun _ _ _ h => h) (Or.inl (And.intro (by kernel_rfl) ?q5_40)) hS0 ?r5_40; (case q5_40 => (intro w hx; (try dsimp only); (try go_simp); (try with_reducible rfl)))
          (try simp only [Act.put, List.setIfInBounds_toArray, List.set_cons_zero, List.set_cons_succ, List.getElem_toArray, List.getElem_cons_succ, List.getElem_cons_zero])
          refine wpAnyJ_take (i := 6) (v := ?v6_41) rfl (by kernel_rfl) (by kernel_rfl) (by kernel_rfl) (by kernel_rfl) (fun _ _ _ h => h) (Or.inl (And.intro (by kernel_rfl) ?q6_41)) hS0 ?r6_41; (case q6_41 => (intro w hx; (try dsimp only); (try go_simp); (try with_reducible rfl)))
          (try simp only [Act.put, List.setIfInBounds_toArray, List.set_cons_zero, List.set_cons_succ, List.getElem_toArray, List.getElem_cons_succ, List.getElem_cons_zero])
          refine wpAnyJ_take (i := 8) (v := ?v8_42) rfl (by kernel_rfl) (by kernel_rfl) (by kernel_rfl) (by kernel_rfl) (fun _ _ _ h => h) (Or.inl (And.intro (by kernel_rfl) ?q8_42)) hS0 ?r8_42; (case q8_42 => (intro w hx; (try dsimp only); (try go_simp); (try with_reducible rfl)))
          (try simp only [Act.put, List.setIfInBounds_toArray, List.set_cons_zero, List.set_cons_succ, List.getElem_toArray, List.getElem_cons_succ, List.getElem_cons_zero])
          refine wpAnyJ_take (i := 11) (v := ?v11_43) rfl (by kernel_rfl) (by kernel_rfl) (by kernel_rfl) (by kernel_rfl) (fun _ _ _ h => h) (Or.inl (And.intro (by kernel_rfl) ?q11_43)) hS0 ?r11_43; (case q11_43 => (intro w hx; (try dsimp only); (try go_simp); (try with_reducible rfl)))
          (try simp only [Act.put, List.setIfInBounds_toArray, List.set_cons_zero, List.set_cons_succ, List.getElem_toArray, List.getElem_cons_succ, List.getElem_cons_zero])
          refine wpAnyJ_take (i := 12) (v := ?v12_44) rfl (by kernel_rfl) (by kernel_rfl) (by kernel_rfl) (by kernel_rfl) (fun _ _ _ h => h) (Or.inl (And.intro (by kernel_rfl) ?q12_44)) hS0 ?r12_44; (case q12_44 => (intro w hx; (try dsimp only); (try go_simp); (try with_reducible rfl)))
          (try simp only [Act.put, List.setIfInBounds_toArray, List.set_cons_zero, List.set_cons_succ, List.getElem_toArray, List.getElem_cons_succ, List.getElem_cons_zero])
          refine wpAnyJ_take (i := 13) (v := ?v13_45) rfl (by kernel_rfl) (by kernel_rfl) (by kernel_rfl) (by kernel_rfl) (fun _ _ _ h => h) (Or.inl (And.intro (by kernel_rfl) ?q13_45)) hS0 ?r13_45; (case q13_45 => (intro w hx; (try dsimp only); (try go_simp); (try with_reducible rfl)))
          (try simp only [Act.put, List.setIfInBounds_toArray, List.set_cons_zero, List.set_cons_succ, List.getElem_toArray, List.getElem_cons_succ, List.getElem_cons_zero])
          refine wpAnyJ_take (i := 14) (v := ?v14_46) rfl (by kernel_rfl) (by kernel_rfl) (by kernel_rfl) (by kernel_rfl) (fun _ _ _ h => h) (Or.inl (And.intro (by kernel_rfl) ?q14_46)) hS0 ?r14_46; (case q14_46 => (intro w hx; (try dsimp only); (try go_simp); (try with_reducible rfl)))
          (try simp only [Act.put, List.setIfInBounds_toArray, List.set_cons_zero, List.set_cons_succ, List.getElem_toArray, List.getElem_cons_succ, List.getElem_cons_zero])
          refine wpAnyJ_take (i := 15) (v := ?v15_47) rfl (by kernel_rfl) (by kernel_rfl) (by kernel_rfl) (by kernel_rfl) (fun _ _ _ h => h) (Or.inl (And.intro (by kernel_rfl) ?q15_47)) hS0 ?r15_47; (case q15_47 => (intro w hx; (try dsimp only); (try go_simp); (try with_reducible rfl)))
          (try simp only [Act.put, List.setIfInBounds_toArray, List.set_cons_zero, List.set_cons_succ, List.getElem_toArray, List.getElem_cons_succ, List.getElem_cons_zero])
          refine wpAnyJ_take (i := 16) (v := ?v16_48) rfl (by kernel_rfl) (by kernel_rfl) (by kernel_rfl) (by kernel_rfl) (fun _ _ _ h => h) (Or.inl (And.intro (by kernel_rfl) ?q16_48)) hS0 ?r16_48; (case q16_48 => (intro w hx; (try dsimp only); (try go_simp); (try with_reducible rfl)))
          (try simp only [Act.put, List.setIfInBounds_toArray, List.set_cons_zero, List.set_cons_succ, List.getElem_toArray, List.getElem_cons_succ, List.getElem_cons_zero])
          refine wpAnyJ_ready (rs := [7, 9]) (by kernel_rfl) (by simp) ?_
          refine (AllReadyJ.cons rfl (fun K hK => ?_) (AllReadyJ.cons rfl (fun K hK => ?_) AllReadyJ.nil))
          (focus (refine step_app rfl (.const (.slice none 0 0)) (.tmp 56) rfl (.slice none 0 0) _ rfl rfl [] (l.take i) (RR.nil _) (SA.out _ (bstep LR.out hS0) _ rfl _) LT.out ?_; intro A1 n1 c1 w7 r7 g7 o7; have bq := Below.app hS0 g7 (fun k hk => by cases hk) hS0.size; have k7 := Below.app (Below.refl _ _) g7 (fun k hk => by cases hk) (Nat.le_refl _); have q7 := own_app o7 (fun k hk => by cases hk) hS0.size))
          (focus (try go_wp2_with fail))
          refine hK.out _ _ ?hs (fun hS0 => ?_)
          case hs => (first | with_reducible exact hS0 | with_reducible exact bq | exact bstep hS0 (fresh_below _ _))
          clear hK K
          (try simp only [Act.put, List.setIfInBounds_toArray, List.set_cons_zero, List.set_cons_succ, List.getElem_toArray, List.getElem_cons_succ, List.getElem_cons_zero])
          refine wpAnyJ_ready (rs := [9]) (by kernel_rfl) (by simp) ?_
          refine (AllReadyJ.cons rfl (fun K hK => ?_) AllReadyJ.nil)
          rw [if_pos (by kernel_rfl)]
          (try simp only [List.getElem_toArray, List.getElem_cons_succ, List.getElem_cons_zero])
          (focus go_simp)
          refine hK.out _ _ ?hs (fun hS0 => ?_)
          case hs => (first | with_reducible exact hS0 | with_reducible exact bq | exact bstep hS0 (fresh_below _ _))
          clear hK K
          (try simp only [Act.put, List.setIfInBounds_toArray, List.set_cons_zero, List.set_cons_succ, List.getElem_toArray, List.getElem_cons_succ, List.getElem_cons_zero])
          refine wpAnyJ_ready (rs := [10]) (by kernel_rfl) (by simp) ?_
          refine (AllReadyJ.cons rfl (fun K hK => ?_) AllReadyJ.nil)
          (focus (refine step_app rfl (.tmp 57) (.tmp 59) rfl _ _ rfl rfl _ [r] (by first | exact r7 | exact RR.below (fresh_below _ _) r7 | exact RR.below r7 (fresh_below _ _)) (by first | exact SrcR.one (Cells.new _ _ _) | exact SrcR.one (Cells.below k7 (Cells.new _ _ _))) LT2.out ?_; intro A2 n2 c2 w8 r8 g8 o8; have bq := Below.app hS0 g8 q7 hS0.size; have q8 := own_app o8 q7 hS0.size))
          (focus (try go_wp2_with fail))
          refine hK.out _ _ ?hs (fun hS0 => ?_)
          case hs => (first | with_reducible exact hS0 | with_reducible exact bq | exact bstep hS0 (fresh_below _ _))
          clear hK K
          (try simp only [Act.put, List.setIfInBounds_toArray, List.set_cons_zero, List.set_cons_succ, List.getElem_toArray, List.getElem_cons_succ, List.getElem_cons_zero])
          refine wpAnyJ_ready (rs := [17]) (by kernel_rfl) (by simp) ?_
          refine (AllReadyJ.cons rfl (fun K hK => ?_) AllReadyJ.nil)
          (focus (refine step_app rfl (.tmp 60) (.tmp 66) rfl _ _ rfl rfl _ (l.drop i) r8 (SB.out _ (bstep LR.out hS0) _ rfl _ hAD _) LT3.out ?_; intro A3 n3 c3 w9 r9 g9 o9; have bq := Below.app hS0 g9 q8 hS0.size; have q9 := own_app o9 q8 hS0.size))
          (focus (try go_wp2_with fail))
          refine hK.out _ _ ?hs (fun hS0 => ?_)
          case hs => (first | with_reducible exact hS0 | with_reducible exact bq | exact bstep hS0 (fresh_below _ _))
          clear hK K
          (try simp only [Act.put, List.setIfInBounds_toArray, List.set_cons_zero, List.set_cons_succ, List.getElem_toArray, List.getElem_cons_succ, List.getElem_cons_zero])
          refine wpAnyJ_ready (rs := [18]) (by kernel_rfl) (by simp) ?_
          refine (AllReadyJ.cons rfl (fun K hK => ?_) AllReadyJ.nil)
          rw [if_pos (by kernel_rfl)]
          (try simp only [List.getElem_toArray, List.getElem_cons_succ, List.getElem_cons_zero])
          (focus go_simp)
          refine hK.out _ _ ?hs (fun hS0 => ?_)
          case hs => (first | with_reducible exact hS0 | with_reducible exact bq | exact bstep hS0 (fresh_below _ _))
          clear hK K
          (try simp only [Act.put, List.setIfInBounds_toArray, List.set_cons_zero, List.set_cons_succ, List.getElem_toArray, List.getElem_cons_succ, List.getElem_cons_zero])
          refine wpAnyJ_take (i := 19) (v := ?v19_49) rfl (by kernel_rfl) (by kernel_rfl) (by kernel_rfl) (by kernel_rfl) (fun _ _ _ h => h) (Or.inl (And.intro (by kernel_rfl) ?q19_49)) hS0 ?r19_49; (case q19_49 => (intro w hx; (try dsimp only); (try go_simp); (try with_reducible rfl)))
          (try simp only [Act.put, List.setIfInBounds_toArray, List.set_cons_zero, List.set_cons_succ, List.getElem_toArray, List.getElem_cons_succ, List.getElem_cons_zero])
          refine wpAnyJ_ready (rs := [20]) (by kernel_rfl) (by simp) ?_
          refine (AllReadyJ.last rfl (by kernel_rfl) (fun K hK => ?_) AllReadyJ.nil)
          rw [if_pos (by kernel_rfl)]
          (try simp only [List.getElem_toArray, List.getElem_cons_succ, List.getElem_cons_zero])
          (focus go_simp)
          refine hK.out _ _ ?_
          clear hK K
          (try simp only [Act.put, List.setIfInBounds_toArray, List.set_cons_zero, List.set_cons_succ, List.getElem_toArray, List.getElem_cons_succ, List.getElem_cons_zero])
          refine wpAnyJ_done (by kernel_rfl) ?_ _
          rotate_left 1
          rw [if_pos (by kernel_rfl)]
          (try simp only [List.getElem_toArray, List.getElem_cons_succ, List.getElem_cons_zero])
          (focus go_simp)
          refine hK.out _ _ ?hs (fun hS0 => ?_)
          case hs => (first | with_reducible exact hS0 | with_reducible exact bq | exact bstep hS0 (fresh_below _ _))
          clear hK K
          (try simp only [Act.put, List.setIfInBounds_toArray, List.set_cons_zero, List.set_cons_succ, List.getElem_toArray, List.getElem_cons_succ, List.getElem_cons_zero])
          refine wpAnyJ_ready (rs := [7]) (by kernel_rfl) (by simp) ?_
          refine (AllReadyJ.cons rfl (fun K hK => ?_) AllReadyJ.nil)
          (focus (refine step_app rfl (.const (.slice none 0 0)) (.tmp 56) rfl (.slice none 0 0) _ rfl rfl [] (l.take i) (RR.nil _) (SA.out _ (bstep LR.out hS0) _ rfl _) LT.out ?_; intro A1 n1 c1 w7 r7 g7 o7; have bq := Below.app hS0 g7 (fun k hk => by cases hk) hS0.size; have k7 := Below.app (Below.refl _ _) g7 (fun k hk => by cases hk) (Nat.le_refl _); have q7 := own_app o7 (fun k hk => by cases hk) hS0.size))
          (focus (try go_wp2_with fail))
          refine hK.out _ _ ?hs (fun hS0 => ?_)
          case hs => (first | with_reducible exact hS0 | with_reducible exact bq | exact bstep hS0 (fresh_below _ _))
          clear hK K
          (try simp only [Act.put, List.setIfInBounds_toArray, List.set_cons_zero, List.set_cons_succ, List.getElem_toArray, List.getElem_cons_succ, List.getElem_cons_zero])
          refine wpAnyJ_ready (rs := [10]) (by kernel_rfl) (by simp) ?_
          refine (AllReadyJ.cons rfl (fun K hK => ?_) AllReadyJ.nil)
          (focus (refine step_app rfl (.tmp 57) (.tmp 59) rfl _ _ rfl rfl _ [r] (by first | exact r7 | exact RR.below (fresh_below _ _) r7 | exact RR.below r7 (fresh_below _ _)) (by first | exact SrcR.one (Cells.new _ _ _) | exact SrcR.one (Cells.below k7 (Cells.new _ _ _))) LT2.out ?_; intro A2 n2 c2 w8 r8 g8 o8; have bq := Below.app hS0 g8 q7 hS0.size; have q8 := own_app o8 q7 hS0.size))
          (focus (try go_wp2_with fail))
          refine hK.out _ _ ?hs (fun hS0 => ?_)
          case hs => (first | with_reducible exact hS0 | with_reducible exact bq | exact bstep hS0 (fresh_below _ _))
          clear hK K
          (try simp only [Act.put, List.setIfInBounds_toArray, List.set_cons_zero, List.set_cons_succ, List.getElem_toArray, List.getElem_cons_succ, List.getElem_cons_zero])
          refine wpAnyJ_ready (rs := [17]) (by kernel_rfl) (by simp) ?_
          refine (AllReadyJ.cons rfl (fun K hK => ?_) AllReadyJ.nil)
          (focus (refine step_app rfl (.tmp 60) (.tmp 66) rfl _ _ rfl rfl _ (l.drop i) r8 (SB.out _ (bstep LR.out hS0) _ rfl _ hAD _) LT3.out ?_; intro A3 n3 c3 w9 r9 g9 o9; have bq := Below.app hS0 g9 q8 hS0.size; have q9 := own_app o9 q8 hS0.size))
          (focus (try go_wp2_with fail))
          refine hK.out _ _ ?hs (fun hS0 => ?_)
          case hs => (first | with_reducible exact hS0 | with_reducible exact bq | exact bstep hS0 (fresh_below _ _))
          clear hK K
          (try simp only [Act.put, List.setIfInBounds_toArray, List.set_cons_zero, List.set_cons_succ, List.getElem_toArray, List.getElem_cons_succ, List.getElem_cons_zero])
          refine wpAnyJ_ready (rs := [18]) (by kernel_rfl) (by simp) ?_
          refine (AllReadyJ.cons rfl (fun K hK => ?_) AllReadyJ.nil)
          rw [if_pos (by kernel_rfl)]
          (try simp only [List.getElem_toArray, List.getElem_cons_succ, List.getElem_cons_zero])
          (focus go_simp)
          refine hK.out _ _ ?hs (fun hS0 => ?_)
          case hs => (first | with_reducible exact hS0 | with_reducible exact bq | exact bstep hS0 (fresh_below _ _))
          clear hK K
          (try simp only [Act.put, List.setIfInBounds_toArray, List.set_cons_zero, List.set_cons_succ, List.getElem_toArray, List.getElem_cons_succ, List.getElem_cons_zero])
          refine wpAnyJ_take (i := 19) (v := ?v19_50) rfl (by kernel_rfl) (by kernel_rfl) (by kernel_rfl) (by kernel_rfl) (fun _ _ _ h => h) (Or.inl (And.intro (by kernel_rfl) ?q19_50)) hS0 ?r19_50; (case q19_50 => (intro w hx; (try dsimp only); (try go_simp); (try with_reducible rfl)))
          (try simp only [Act.put, List.setIfInBounds_toArray, List.set_cons_zero, List.set_cons_succ, List.getElem_toArray, List.getElem_cons_succ, List.getElem_cons_zero])
          refine wpAnyJ_ready (rs := [20]) (by kernel_rfl) (by simp) ?_
          refine (AllReadyJ.last rfl (by kernel_rfl) (fun K hK => ?_) AllReadyJ.nil)
          rw [if_pos (by kernel_rfl)]
          (try simp only [List.getElem_toArray, List.getElem_cons_succ, List.getElem_cons_zero])
          (focus go_simp)
          refine hK.out _ _ ?_
          clear hK K
          (try simp only [Act.put, List.setIfInBounds_toArray, List.set_cons_zero, List.set_cons_succ, List.getElem_toArray, List.getElem_cons_succ, List.getElem_cons_zero])
          refine wpAnyJ_done (by kernel_rfl) ?_ _
          rotate_left 1
        all_goals
          have r9' : RR w9 (.slice A3 n3 c3) L := by rw [HL'.out]; simpa using r9
          have hbw : B < wr.heap.size := Nat.lt_of_lt_of_le HB.out LR.out.size
          have ho9 : Only (fun k => k = B) w9 (w9.setCell ⟨B, 3, none⟩ (.slice A3 n3 c3)) := Only.setAt (Only.refl _ _) 3 _ (Or.inl rfl)
          have FIN := hide (show DPost w B o ip b v L (.int .i64 0) (.returned (.int .i64 0)) (w9.setCell ⟨B, 3, none⟩ (.slice A3 n3 c3)) from
            ⟨rfl, _, ⟨by have h := Cells.set_ (Cells.below hS0 EB.out) 3 (.slice A3 n3 c3); simpa [Doc] using h, r9'.only ho9 (fun g hg e => by have := q9 g hg; omega), fun e => by have := q9 B e; omega⟩,
              Only.setAt (Only.then (Only.of_below LR.out (Nat.le_refl _)) (hS0.mono (Nat.le_refl _))) 3 _ (Or.inl (Or.inl rfl)), fun g hg => Or.inr (Nat.le_trans LR.out.size (q9 g hg))⟩)
          clear r9' ho9 o7 o8 o9 g7 g8 g9 r7 r8 r9 q7 q8 q9
          go_wp2_with fail
          go_ret
          exact FIN.out
end Go.Proofs.Ytbboajhdijabbaa
