/- RulesBack: the walk. -/
import Derived.Test.YtbboajhdijabbaaRlaw7
set_option linter.unusedVariables false
set_option linter.unusedSimpArgs false
namespace Go.Proofs.Ytbboajhdijabbaa
open Go.RowKit Go.Lib
attribute [local go_sem] Oper.semAt_some

theorem slice_some {W : World} {A : Option Addr} {n c : Nat} {l : List Rule} (h : RR W (.slice A n c) l) (hl : 0 < l.length) : ∃ g, A = some (⟨g, 0, none⟩ : Addr) := by
  obtain ⟨g, c', hv, _⟩ := RR.cell h (by rintro rfl; simp at hl)
  cases hv
  exact ⟨g, rfl⟩
/-- two slices with the same rules: the second one is read, the first one may be struck; what the rest of the law needs of the world -/
structure Two (B : Nat) (l : List Rule) (v : Value) (A1 : Option Addr) (c1 : Nat) (m : Nat) (w W : World) : Prop where
  ts : TS W B 151587081 167772160 8 l v
  rm : RR W (.slice A1 m c1) l
  bw : Below w.heap.size w W
theorem Two.below {B : Nat} {l : List Rule} {v : Value} {A1 : Option Addr} {c1 m : Nat} {w W W' : World} (h : Two B l v A1 c1 m w W) (k : Below W.heap.size W W') : Two B l v A1 c1 m w W' := ⟨h.ts.below k, h.rm.below k, bstep h.bw k⟩
theorem Two.set {B : Nat} {l : List Rule} {v : Value} {A1 : Option Addr} {c1 m : Nat} {w W : World} (h : Two B l v A1 c1 m w W) (g o : Nat) (vs : List Value) (h1 : g ≠ B) (h2 : v.ownBlock ≠ some g) (h3 : (Value.slice A1 m c1).ownBlock ≠ some g) (h4 : w.heap.size ≤ g) : Two B l v A1 c1 m w (W.setCells g o vs) := by
  have ho : Only (fun k => k = g) W (W.setCells g o vs) := Only.setCells_ vs o W (Only.refl _ _) (Or.inl rfl)
  exact ⟨h.ts.only ho (fun e => h1 e.symm) (fun k hk e => h2 (e ▸ hk)), h.rm.only ho (fun k hk e => h3 (e ▸ hk)), h.bw.trans (ho.below (fun k e => by rw [e]; exact h4) h.bw.size)⟩

set_option maxHeartbeats 8000000 in
set_option maxRecDepth 100000 in
theorem RulesBack_walk (A : Option Addr) (n c : Nat) (ds : List Draft) (a0 a1 a2 a3 a4 a5 : Int) (q : Int) (w : World) (hn : n = ds.length) (hrow : DRow w A ds) (hd : ∀ d ∈ ds, d.Ok) (hl63 : n ≤ 9223372036854775807) (h0 : 0 ≤ a0 ∧ a0 ≤ 255) (h1 : 0 ≤ a1 ∧ a1 ≤ 255) (h2 : 0 ≤ a2 ∧ a2 ≤ 255) (h3 : 0 ≤ a3 ∧ a3 ≤ 255) (h4 : 0 ≤ a4 ∧ a4 ≤ 255) (h5 : 0 ≤ a5 ∧ a5 ≤ 255) (hq : 0 ≤ q ∧ q ≤ 255) :
    Calls Try.prog 5 #[.slice A n c, .agg #[.int .u8 a0, .int .u8 a1, .int .u8 a2, .int .u8 a3, .int .u8 a4, .int .u8 a5], .int .u8 q] w (Ret (.bool true) w) := by
  have cr := fun W => ruled W
  have CR := hide cr
  clear cr
  by_cases h40 : 40 < n
  · have h40z : (40 : Int) < (n : Int) := by omega
    have hz : (n : Int) ≤ 9223372036854775807 := by omega
    clear hn hrow hd h0 h1 h2 h3 h4 h5 hq h40 hl63
    go_enter Try.func5, Try.ntmps5
    have d0 := Cells.new w #[.int .u8 a0, .int .u8 a1, .int .u8 a2, .int .u8 a3, .int .u8 a4, .int .u8 a5] 45
    have l0 : Below w.heap.size w (w.alloc (.cells #[.int .u8 a0, .int .u8 a1, .int .u8 a2, .int .u8 a3, .int .u8 a4, .int .u8 a5] 45)) := (fresh_below _ _)
    have L0 := hide l0; have D0 := hide d0
    clear l0 d0
    go_upto_region 1 with fail
    have l0 := L0.out; have d0 := D0.out
    clear L0 D0
    generalize (w.alloc (.cells #[.int .u8 a0, .int .u8 a1, .int .u8 a2, .int .u8 a3, .int .u8 a4, .int .u8 a5] 45)) = w1 at *
    have qd0_0 : ∀ W', Below w1.heap.size w1 W' → World.cell? W' ⟨w.heap.size, 0, none⟩ = some (.int .u8 a0) := fun W' h => Cells.at_ (Cells.below h d0) 0
    have qd0_1 : ∀ W', Below w1.heap.size w1 W' → World.cell? W' ⟨w.heap.size, 1, none⟩ = some (.int .u8 a1) := fun W' h => Cells.at_ (Cells.below h d0) 1
    have qd0_2 : ∀ W', Below w1.heap.size w1 W' → World.cell? W' ⟨w.heap.size, 2, none⟩ = some (.int .u8 a2) := fun W' h => Cells.at_ (Cells.below h d0) 2
    have qd0_3 : ∀ W', Below w1.heap.size w1 W' → World.cell? W' ⟨w.heap.size, 3, none⟩ = some (.int .u8 a3) := fun W' h => Cells.at_ (Cells.below h d0) 3
    have qd0_4 : ∀ W', Below w1.heap.size w1 W' → World.cell? W' ⟨w.heap.size, 4, none⟩ = some (.int .u8 a4) := fun W' h => Cells.at_ (Cells.below h d0) 4
    have qd0_5 : ∀ W', Below w1.heap.size w1 W' → World.cell? W' ⟨w.heap.size, 5, none⟩ = some (.int .u8 a5) := fun W' h => Cells.at_ (Cells.below h d0) 5
    have bb : Below w1.heap.size w1 w1 := Below.refl _ _
    have L0 := hide l0; have D0 := hide d0
    clear l0 d0
    go_wp2_with ((go_at_call 11; (with_reducible refine (CR.out _).mono ?_); rintro e2 w2 ⟨rfl, b2⟩; have b2' := bstep (by assumption : Below w1.heap.size w1 _) b2; clear b2))
    go_ret
    exact ⟨rfl, bstep L0.out (by assumption)⟩
  · have h40z : ¬ (40 : Int) < (n : Int) := by omega
    have hn63 : (n : Int) ≤ 40 := by omega
    have hgood := fillL_good ds hd
    obtain ⟨dd, hdd⟩ : ∃ dd : Draft, dd = ⟨a0, a1, a2, a3, a4, a5⟩ := ⟨_, rfl⟩
    have hok : dd.Ok := by rw [hdd]; exact ⟨h0, h1, h2, h3, h4, h5⟩
    have cd := fun W => l_DRule W dd hok
    have hrok := Draft.rule_ok hok
    have hrm := Draft.rule_may hok
    unfold Draft.cells at cd
    rw [hdd] at cd
    simp only [Draft.rule] at cd
    rw [show dRule a0 a1 a2 a3 a4 a5 = dd.rule from by rw [hdd]; rfl] at cd
    generalize dd.rule = r0 at *
    have cf := fun W (h : Below w.heap.size w W) => l_filled W A n c ds hn (hrow.below h) hd (by omega)
    obtain ⟨l, hl⟩ : ∃ l, l = fillL ds := ⟨_, rfl⟩
    rw [← hl] at cf hgood
    obtain ⟨m, hm⟩ : ∃ m, m = l.length := ⟨_, rfl⟩
    have hm32 : m ≤ 32 := by have := hgood.len; omega
    unfold Rule.cells at cd
    have CD := hide cd; have CF := hide cf; have GL := hide hgood; have ML := hide hm; have HRM := hide hrm; have HRO := hide hrok
    clear cd cf hgood hm hrm hrok hn hrow hd h0 h1 h2 h3 h4 h5 hok hdd hl h40 hl63
    go_enter Try.func5, Try.ntmps5
    have d0 := Cells.new w #[.int .u8 a0, .int .u8 a1, .int .u8 a2, .int .u8 a3, .int .u8 a4, .int .u8 a5] 45
    have l0 : Below w.heap.size w (w.alloc (.cells #[.int .u8 a0, .int .u8 a1, .int .u8 a2, .int .u8 a3, .int .u8 a4, .int .u8 a5] 45)) := (fresh_below _ _)
    have L0 := hide l0; have D0 := hide d0
    clear l0 d0
    go_upto_region 1 with fail
    have l0 := L0.out; have d0 := D0.out
    clear L0 D0
    generalize (w.alloc (.cells #[.int .u8 a0, .int .u8 a1, .int .u8 a2, .int .u8 a3, .int .u8 a4, .int .u8 a5] 45)) = w1 at *
    have qd0_0 : ∀ W', Below w1.heap.size w1 W' → World.cell? W' ⟨w.heap.size, 0, none⟩ = some (.int .u8 a0) := fun W' h => Cells.at_ (Cells.below h d0) 0
    have qd0_1 : ∀ W', Below w1.heap.size w1 W' → World.cell? W' ⟨w.heap.size, 1, none⟩ = some (.int .u8 a1) := fun W' h => Cells.at_ (Cells.below h d0) 1
    have qd0_2 : ∀ W', Below w1.heap.size w1 W' → World.cell? W' ⟨w.heap.size, 2, none⟩ = some (.int .u8 a2) := fun W' h => Cells.at_ (Cells.below h d0) 2
    have qd0_3 : ∀ W', Below w1.heap.size w1 W' → World.cell? W' ⟨w.heap.size, 3, none⟩ = some (.int .u8 a3) := fun W' h => Cells.at_ (Cells.below h d0) 3
    have qd0_4 : ∀ W', Below w1.heap.size w1 W' → World.cell? W' ⟨w.heap.size, 4, none⟩ = some (.int .u8 a4) := fun W' h => Cells.at_ (Cells.below h d0) 4
    have qd0_5 : ∀ W', Below w1.heap.size w1 W' → World.cell? W' ⟨w.heap.size, 5, none⟩ = some (.int .u8 a5) := fun W' h => Cells.at_ (Cells.below h d0) 5
    have bb : Below w1.heap.size w1 w1 := Below.refl _ _
    have L0 := hide l0; have D0 := hide d0
    clear l0 d0
    clear qd0_0 qd0_1 qd0_2 qd0_3 qd0_4 qd0_5 bb
    go_upto_region 6 with (go_at_call 20; (refine (CF.out _ L0.out).mono ?_); rintro e w2 ⟨B, v0, rfl, ts, hv0, b2, hB⟩)
    have hv2 : ∀ g, v0.ownBlock = some g → g < w2.heap.size := fun g hg => ts.row.row hg
    have hB2 : B < w2.heap.size := Cells.lt ts.tbl
    have hw1 : w.heap.size < w1.heap.size := Cells.lt D0.out
    replace D0 := hide (Cells.below b2 D0.out)
    replace L0 := hide (bstep L0.out b2)
    have HB2 := hide hB2; have HV2 := hide hv2; have HV0 := hide hv0; have HB := hide hB; have TS2 := hide ts; have HW1 := hide hw1
    clear b2 ts hv2 hB2 hw1 hv0 hB
    go_upto_region 7 with (go_at_call 22; (refine (t_List _ B _ _ _ _ _ TS2.out (by have := GL.out.len; omega)).mono ?_); rintro e w3 ⟨vm, rfl, r3, b3, f3⟩)
    obtain ⟨A1, c1, rfl⟩ := slice_of r3
    rw [← ML.out] at r3 f3 ⊢
    replace D0 := hide (Cells.below b3 D0.out)
    replace L0 := hide (bstep L0.out b3)
    have TS3 := hide (TS.b b3 TS2.out); have R3 := hide r3; have F3 := hide f3
    have B3 := hide b3.size
    have hR3 := hide (fun g (hg : (Value.slice A1 m c1).ownBlock = some g) => r3.row hg)
    clear r3 f3 b3
    obtain ⟨M, hM⟩ : ∃ M : Int, M = (m : Int) + 1 := ⟨_, rfl⟩
    have hMw : IntKind.i64.wrap ((m : Int) + 1) = M := by rw [hM]; exact IntWalk.i64_in _ (by omega)
    have hMw' : (m : Int) + 1 = M := hM.symm
    have hM0 : ¬ M = 0 := by omega
    have hM0b : (M == 0) = false := by simp [hM0]
    have hqw : IntKind.i64.wrap q = q := IntWalk.i64_in _ (by omega)
    obtain ⟨k, hk⟩ : ∃ k : Nat, (k : Int) = q % M := ⟨(q % M).toNat, by have := Int.emod_nonneg q hM0; omega⟩
    have hkm : k ≤ m := by have := Int.emod_lt_of_pos q (show 0 < M by omega); omega
    have hqm : q.tmod M = (k : Int) := by rw [Int.tmod_eq_emod_of_nonneg hq.1, hk]
    have hqmw : IntKind.i64.wrap (k : Int) = (k : Int) := IntWalk.i64_in _ (by omega)
    obtain ⟨hq0, hq1⟩ := hq
    have hM1 : 1 ≤ M := by omega
    have hMw2 : IntKind.i64.wrap M = M := IntWalk.i64_in _ (by omega)
    have HM := hide hM
    clear hk hM
    go_upto_region 8 with fail
    have ca := fun W (hW : Below w3.heap.size w3 W) => t_Add W B _ _ _ v0 l k r0 (TS3.out.below hW) (by decide) HRO.out (by have := GL.out.len; omega)
    have hcodes := addC_codes (l := l) (r := r0) (i := k) HRM.out (by have := ML.out; omega)
    have hdel := fun hz => del_add (o := 151587081) (ip := 167772160) (b := 8) (l := l) (r := r0) (k := k) hz (by have := ML.out; omega)
    obtain ⟨L', hL'⟩ : ∃ L', L' = addL 151587081 167772160 8 l k r0 := ⟨_, rfl⟩
    have hno : addC 151587081 167772160 8 l k r0 ≠ 0 → L' = l := fun h => by rw [hL']; unfold addL; rw [if_neg h]
    rw [← hL'] at ca hdel
    generalize addC 151587081 167772160 8 l k r0 = rc at *
    have d0 := D0.out
    have xd0_0 : w3.cell? ⟨w.heap.size, 0, none⟩ = some (.int .u8 a0) := d0.at_ 0
    have xd0_1 : w3.cell? ⟨w.heap.size, 1, none⟩ = some (.int .u8 a1) := d0.at_ 1
    have xd0_2 : w3.cell? ⟨w.heap.size, 2, none⟩ = some (.int .u8 a2) := d0.at_ 2
    have xd0_3 : w3.cell? ⟨w.heap.size, 3, none⟩ = some (.int .u8 a3) := d0.at_ 3
    have xd0_4 : w3.cell? ⟨w.heap.size, 4, none⟩ = some (.int .u8 a4) := d0.at_ 4
    have xd0_5 : w3.cell? ⟨w.heap.size, 5, none⟩ = some (.int .u8 a5) := d0.at_ 5
    unfold Rule.cells at ca
    have CA := hide ca; have HC := hide hcodes; have HDEL := hide hdel; have HNO := hide hno
    clear ca hcodes hdel hno hL' d0
    go_upto_region 9 with (first | (go_at_call 27; (with_reducible refine (CD.out _).mono ?_); rintro e w4 ⟨rfl, b4⟩) | (go_at_call 14; (refine (CA.out _ b4).mono ?_); rintro e w5 ⟨rfl, v1, ts5, o5, hv1⟩))
    clear xd0_0 xd0_1 xd0_2 xd0_3 xd0_4 xd0_5
    have hsz45 := o5.size
    have hsz34 := b4.size
    have xx : ∀ g, w2.heap.size ≤ g → ¬ (g = B ∨ v0.ownBlock = some g) := fun g hg e => by
      rcases e with e | e
      · have := HB2.out; omega
      · have := HV2.out g e; omega
    have rm5 : RR w5 (.slice A1 m c1) l := (R3.out.below b4).only o5 (fun g hg => xx g (F3.out g hg))
    have d5 : Cells w5 w.heap.size #[.int .u8 a0, .int .u8 a1, .int .u8 a2, .int .u8 a3, .int .u8 a4, .int .u8 a5] 45 := Cells.only (Cells.below b4 D0.out) o5 (fun e => by
      rcases e with e | e
      · have := HB.out; have := HW1.out; omega
      · have := HV0.out _ e; have := HW1.out; omega)
    have hown1 : ∀ g, v1.ownBlock = some g → w1.heap.size ≤ g ∧ (Value.slice A1 m c1).ownBlock ≠ some g ∧ g < w5.heap.size := fun g hg => ⟨by
        rcases hv1 g hg with e | e
        · exact HV0.out g e
        · have := L0.out.size; have := HW1.out; have h7 := B3.out; have h8 := HB.out; have := HB2.out; omega, fun e => by
        have h1 := F3.out g e
        have h2 := hR3.out g e
        rcases hv1 g hg with e | e
        · have := HV2.out g e; omega
        · omega, ts5.row.row hg⟩
    have lw : Below w.heap.size w w5 := L0.out.trans ((b4.mono (by have := L0.out.size; omega)).trans (o5.below (fun k e => by
      rcases e with e | e
      · have := HB.out; have := HW1.out; omega
      · have := HV0.out k e; have := HW1.out; omega) (by have := L0.out.size; omega)))
    have TS5 := hide ts5; have RM5 := hide rm5; have D5 := hide d5; have OW := hide hown1; have LW := hide lw
    have F3' := hide (fun g (hg : (Value.slice A1 m c1).ownBlock = some g) => (show g ≠ B ∧ g < w5.heap.size from ⟨fun e => xx g (F3.out g hg) (Or.inl e), rm5.row hg⟩))
    have HBw := hide (show w.heap.size < w1.heap.size ∧ w1.heap.size ≤ B from ⟨HW1.out, HB.out⟩)
    clear ts5 rm5 d5 hown1 lw xx o5 hsz45 hsz34 b4 hv1 D0 L0 TS2 TS3 R3 F3 B3 hR3 HB2 HV2 HV0 HB HW1
    generalize w5 = w6 at *
    rcases HC.out with rfl | rfl | rfl
    · obtain ⟨hd1, hd2, hd3, hd4⟩ := HDEL.out rfl
      go_upto_region 10 with (go_at_call 22; (refine (t_List _ B _ _ _ _ _ TS5.out (by have := GL.out.len; omega)).mono ?_); rintro e w7 ⟨vn, rfl, r7, b7, f7⟩)
      obtain ⟨A2, c2, rfl⟩ := slice_of r7
      rw [hd3, ← ML.out] at r7 f7 ⊢
      obtain ⟨g2, hA2⟩ := slice_some r7 (by omega)
      subst hA2
      have ts7 := TS5.out.below b7; have rm7 := RM5.out.below b7; have d7 := Cells.below b7 D5.out
      have hg2 : w6.heap.size ≤ g2 := f7 g2 rfl
      have hX : ∀ W, Only (fun i => i = B ∨ v1.ownBlock = some i) w7 W → RR W (.slice (some ⟨g2, 0, none⟩) (m + 1) c2) L' := fun W h => r7.only h (fun g hg e => by
        cases hg
        rcases e with e | e
        · have e' : g2 = B := e; have := Cells.lt TS5.out.tbl; omega
        · have := (OW.out g2 e).2.2; omega)
      have hXd : ∀ W, Only (fun i => i = B ∨ v1.ownBlock = some i) w7 W → Cells W w.heap.size #[.int .u8 a0, .int .u8 a1, .int .u8 a2, .int .u8 a3, .int .u8 a4, .int .u8 a5] 45 := fun W h => Cells.only d7 h (fun e => by
        have := HBw.out
        rcases e with e | e
        · omega
        · have := (OW.out _ e).1; omega)
      have hlk : k < L'.length := by have := ML.out; omega
      have zn0 : ∀ W', Only (fun i => i = B ∨ v1.ownBlock = some i) w7 W' → World.cell? W' ⟨g2, k * 11, none⟩ = some (.int .i64 r0.k) := fun W' hW => RR.slot (i := 0) (hX W' hW) hlk hd4 (by omega) rfl
      have zn1 : ∀ W', Only (fun i => i = B ∨ v1.ownBlock = some i) w7 W' → World.cell? W' ⟨g2, k * 11 + 1, none⟩ = some (.int .u8 r0.p) := fun W' hW => RR.slot (i := 1) (hX W' hW) hlk hd4 (by omega) rfl
      have zn2 : ∀ W', Only (fun i => i = B ∨ v1.ownBlock = some i) w7 W' → World.cell? W' ⟨g2, k * 11 + 2, none⟩ = some (.int .u32 r0.sa) := fun W' hW => RR.slot (i := 2) (hX W' hW) hlk hd4 (by omega) rfl
      have zn3 : ∀ W', Only (fun i => i = B ∨ v1.ownBlock = some i) w7 W' → World.cell? W' ⟨g2, k * 11 + 3, none⟩ = some (.int .i64 r0.sb) := fun W' hW => RR.slot (i := 3) (hX W' hW) hlk hd4 (by omega) rfl
      have zn4 : ∀ W', Only (fun i => i = B ∨ v1.ownBlock = some i) w7 W' → World.cell? W' ⟨g2, k * 11 + 4, none⟩ = some (.int .u32 r0.da) := fun W' hW => RR.slot (i := 4) (hX W' hW) hlk hd4 (by omega) rfl
      have zn5 : ∀ W', Only (fun i => i = B ∨ v1.ownBlock = some i) w7 W' → World.cell? W' ⟨g2, k * 11 + 5, none⟩ = some (.int .i64 r0.db) := fun W' hW => RR.slot (i := 5) (hX W' hW) hlk hd4 (by omega) rfl
      have zn6 : ∀ W', Only (fun i => i = B ∨ v1.ownBlock = some i) w7 W' → World.cell? W' ⟨g2, k * 11 + 6, none⟩ = some (.int .u32 r0.e) := fun W' hW => RR.slot (i := 6) (hX W' hW) hlk hd4 (by omega) rfl
      have zn7 : ∀ W', Only (fun i => i = B ∨ v1.ownBlock = some i) w7 W' → World.cell? W' ⟨g2, k * 11 + 7, none⟩ = some (.int .u16 r0.f) := fun W' hW => RR.slot (i := 7) (hX W' hW) hlk hd4 (by omega) rfl
      have zn8 : ∀ W', Only (fun i => i = B ∨ v1.ownBlock = some i) w7 W' → World.cell? W' ⟨g2, k * 11 + 8, none⟩ = some (.int .u16 r0.t) := fun W' hW => RR.slot (i := 8) (hX W' hW) hlk hd4 (by omega) rfl
      have zn9 : ∀ W', Only (fun i => i = B ∨ v1.ownBlock = some i) w7 W' → World.cell? W' ⟨g2, k * 11 + 9, none⟩ = some (.int .u32 r0.ia) := fun W' hW => RR.slot (i := 9) (hX W' hW) hlk hd4 (by omega) rfl
      have zn10 : ∀ W', Only (fun i => i = B ∨ v1.ownBlock = some i) w7 W' → World.cell? W' ⟨g2, k * 11 + 10, none⟩ = some (.int .u16 r0.ip) := fun W' hW => RR.slot (i := 10) (hX W' hW) hlk hd4 (by omega) rfl
      have zd0 : ∀ W', Only (fun i => i = B ∨ v1.ownBlock = some i) w7 W' → World.cell? W' ⟨w.heap.size, 0, none⟩ = some (.int .u8 a0) := fun W' hW => Cells.at_ (hXd W' hW) 0
      have zd1 : ∀ W', Only (fun i => i = B ∨ v1.ownBlock = some i) w7 W' → World.cell? W' ⟨w.heap.size, 1, none⟩ = some (.int .u8 a1) := fun W' hW => Cells.at_ (hXd W' hW) 1
      have zd2 : ∀ W', Only (fun i => i = B ∨ v1.ownBlock = some i) w7 W' → World.cell? W' ⟨w.heap.size, 2, none⟩ = some (.int .u8 a2) := fun W' hW => Cells.at_ (hXd W' hW) 2
      have zd3 : ∀ W', Only (fun i => i = B ∨ v1.ownBlock = some i) w7 W' → World.cell? W' ⟨w.heap.size, 3, none⟩ = some (.int .u8 a3) := fun W' hW => Cells.at_ (hXd W' hW) 3
      have zd4 : ∀ W', Only (fun i => i = B ∨ v1.ownBlock = some i) w7 W' → World.cell? W' ⟨w.heap.size, 4, none⟩ = some (.int .u8 a4) := fun W' hW => Cells.at_ (hXd W' hW) 4
      have zd5 : ∀ W', Only (fun i => i = B ∨ v1.ownBlock = some i) w7 W' → World.cell? W' ⟨w.heap.size, 5, none⟩ = some (.int .u8 a5) := fun W' hW => Cells.at_ (hXd W' hW) 5
      have hkc : k < m + 1 := by omega
      have hkz : (k : Int) < (m : Int) + 1 := by omega
      have hkM : (k : Int) < M := by omega
      have bb0 : Only (fun i => i = B ∨ v1.ownBlock = some i) w7 w7 := Only.refl _ _
      have cdel : ∀ W, TS W B 151587081 167772160 8 L' v1 → _ := fun W hW => t_Delete W B _ _ _ v1 L' k hW (by have := GL.out.len; have := ML.out; omega)
      rw [hd1, hd2] at cdel
      have TS7 := hide ts7; have RM7 := hide rm7; have CDEL := hide cdel; have LW7 := hide (bstep LW.out b7)
      have OX := hide (fun W (h : Below w7.heap.size w7 W) => (show TS W B 151587081 167772160 8 L' v1 from ts7.below h))
      clear ts7 rm7 d7 hX hXd cdel hd1 hd2 hd3 hd4 r7 f7 b7 hlk
      focus
        refine wp_region_J [] (fun W => Only (fun i => i = B ∨ v1.ownBlock = some i) w7 W) (by kernel_rfl) (bb0.drew) (fun hS0 => ?_)
        refine wpAnyJ_take (i := 0) (v := ?v0_1) rfl (by kernel_rfl) (by kernel_rfl) (by kernel_rfl) (by kernel_rfl) (fun _ _ _ h => h) (Or.inl (And.intro (by kernel_rfl) ?q0_1)) hS0 ?r0_1; (case q0_1 => (intro w hx; (try dsimp only); (try go_simp); (try with_reducible rfl)))
        (try simp only [Act.put, List.setIfInBounds_toArray, List.set_cons_zero, List.set_cons_succ, List.getElem_toArray, List.getElem_cons_succ, List.getElem_cons_zero])
        refine wpAnyJ_take (i := 1) (v := ?v1_2) rfl (by kernel_rfl) (by kernel_rfl) (by kernel_rfl) (by kernel_rfl) (fun _ _ _ h => h) (Or.inl (And.intro (by kernel_rfl) ?q1_2)) hS0 ?r1_2; (case q1_2 => (intro w hx; (try dsimp only); (try go_simp); (try with_reducible rfl)))
        (try simp only [Act.put, List.setIfInBounds_toArray, List.set_cons_zero, List.set_cons_succ, List.getElem_toArray, List.getElem_cons_succ, List.getElem_cons_zero])
        refine wpAnyJ_take (i := 2) (v := ?v2_3) rfl (by kernel_rfl) (by kernel_rfl) (by kernel_rfl) (by kernel_rfl) (fun _ _ _ h => h) (Or.inl (And.intro (by kernel_rfl) ?q2_3)) hS0 ?r2_3; (case q2_3 => (intro w hx; (try dsimp only); (try go_simp); (try with_reducible rfl)))
        (try simp only [Act.put, List.setIfInBounds_toArray, List.set_cons_zero, List.set_cons_succ, List.getElem_toArray, List.getElem_cons_succ, List.getElem_cons_zero])
        refine wpAnyJ_take (i := 3) (v := ?v3_4) rfl (by kernel_rfl) (by kernel_rfl) (by kernel_rfl) (by kernel_rfl) (fun _ _ _ h => h) (Or.inl (And.intro (by kernel_rfl) ?q3_4)) hS0 ?r3_4; (case q3_4 => (intro w hx; (try dsimp only); (try go_simp); (try with_reducible rfl)))
        (try simp only [Act.put, List.setIfInBounds_toArray, List.set_cons_zero, List.set_cons_succ, List.getElem_toArray, List.getElem_cons_succ, List.getElem_cons_zero])
        refine wpAnyJ_take (i := 4) (v := ?v4_5) rfl (by kernel_rfl) (by kernel_rfl) (by kernel_rfl) (by kernel_rfl) (fun _ _ _ h => h) (Or.inl (And.intro (by kernel_rfl) ?q4_5)) hS0 ?r4_5; (case q4_5 => (intro w hx; (try dsimp only); (try go_simp); (try with_reducible rfl)))
        (try simp only [Act.put, List.setIfInBounds_toArray, List.set_cons_zero, List.set_cons_succ, List.getElem_toArray, List.getElem_cons_succ, List.getElem_cons_zero])
        refine wpAnyJ_take (i := 5) (v := ?v5_6) rfl (by kernel_rfl) (by kernel_rfl) (by kernel_rfl) (by kernel_rfl) (fun _ _ _ h => h) (Or.inl (And.intro (by kernel_rfl) ?q5_6)) hS0 ?r5_6; (case q5_6 => (intro w hx; (try dsimp only); (try go_simp); (try with_reducible rfl)))
        (try simp only [Act.put, List.setIfInBounds_toArray, List.set_cons_zero, List.set_cons_succ, List.getElem_toArray, List.getElem_cons_succ, List.getElem_cons_zero])
        refine wpAnyJ_take (i := 6) (v := ?v6_7) rfl (by kernel_rfl) (by kernel_rfl) (by kernel_rfl) (by kernel_rfl) (fun _ _ _ h => h) (Or.inl (And.intro (by kernel_rfl) ?q6_7)) hS0 ?r6_7; (case q6_7 => (intro w hx; (try dsimp only); (try go_simp); (try with_reducible rfl)))
        (try simp only [Act.put, List.setIfInBounds_toArray, List.set_cons_zero, List.set_cons_succ, List.getElem_toArray, List.getElem_cons_succ, List.getElem_cons_zero])
        refine wpAnyJ_take (i := 7) (v := ?v7_8) rfl (by kernel_rfl) (by kernel_rfl) (by kernel_rfl) (by kernel_rfl) (fun _ _ _ h => h) (Or.inl (And.intro (by kernel_rfl) ?q7_8)) hS0 ?r7_8; (case q7_8 => (intro w hx; (try dsimp only); (try go_simp); (try with_reducible rfl)))
        (try simp only [Act.put, List.setIfInBounds_toArray, List.set_cons_zero, List.set_cons_succ, List.getElem_toArray, List.getElem_cons_succ, List.getElem_cons_zero])
        refine wpAnyJ_take (i := 8) (v := ?v8_9) rfl (by kernel_rfl) (by kernel_rfl) (by kernel_rfl) (by kernel_rfl) (fun _ _ _ h => h) (Or.inl (And.intro (by kernel_rfl) ?q8_9)) hS0 ?r8_9; (case q8_9 => (intro w hx; (try dsimp only); (try go_simp); (try with_reducible rfl)))
        (try simp only [Act.put, List.setIfInBounds_toArray, List.set_cons_zero, List.set_cons_succ, List.getElem_toArray, List.getElem_cons_succ, List.getElem_cons_zero])
        refine wpAnyJ_take (i := 9) (v := ?v9_10) rfl (by kernel_rfl) (by kernel_rfl) (by kernel_rfl) (by kernel_rfl) (fun _ _ _ h => h) (Or.inl (And.intro (by kernel_rfl) ?q9_10)) hS0 ?r9_10; (case q9_10 => (intro w hx; (try dsimp only); (try go_simp); (try with_reducible rfl)))
        (try simp only [Act.put, List.setIfInBounds_toArray, List.set_cons_zero, List.set_cons_succ, List.getElem_toArray, List.getElem_cons_succ, List.getElem_cons_zero])
        refine wpAnyJ_take (i := 10) (v := ?v10_11) rfl (by kernel_rfl) (by kernel_rfl) (by kernel_rfl) (by kernel_rfl) (fun _ _ _ h => h) (Or.inl (And.intro (by kernel_rfl) ?q10_11)) hS0 ?r10_11; (case q10_11 => (intro w hx; (try dsimp only); (try go_simp); (try with_reducible rfl)))
        (try simp only [Act.put, List.setIfInBounds_toArray, List.set_cons_zero, List.set_cons_succ, List.getElem_toArray, List.getElem_cons_succ, List.getElem_cons_zero])
        refine wpAnyJ_take (i := 11) (v := ?v11_12) rfl (by kernel_rfl) (by kernel_rfl) (by kernel_rfl) (by kernel_rfl) (fun _ _ _ h => h) (Or.inl (And.intro (by kernel_rfl) ?q11_12)) hS0 ?r11_12; (case q11_12 => (intro w hx; (try dsimp only); (try go_simp); (try with_reducible rfl)))
        (try simp only [Act.put, List.setIfInBounds_toArray, List.set_cons_zero, List.set_cons_succ, List.getElem_toArray, List.getElem_cons_succ, List.getElem_cons_zero])
        refine wpAnyJ_take (i := 12) (v := ?v12_13) rfl (by kernel_rfl) (by kernel_rfl) (by kernel_rfl) (by kernel_rfl) (fun _ _ _ h => h) (Or.inl (And.intro (by kernel_rfl) ?q12_13)) hS0 ?r12_13; (case q12_13 => (intro w hx; (try dsimp only); (try go_simp); (try with_reducible rfl)))
        (try simp only [Act.put, List.setIfInBounds_toArray, List.set_cons_zero, List.set_cons_succ, List.getElem_toArray, List.getElem_cons_succ, List.getElem_cons_zero])
        refine wpAnyJ_take (i := 13) (v := ?v13_14) rfl (by kernel_rfl) (by kernel_rfl) (by kernel_rfl) (by kernel_rfl) (fun _ _ _ h => h) (Or.inl (And.intro (by kernel_rfl) ?q13_14)) hS0 ?r13_14; (case q13_14 => (intro w hx; (try dsimp only); (try go_simp); (try with_reducible rfl)))
        (try simp only [Act.put, List.setIfInBounds_toArray, List.set_cons_zero, List.set_cons_succ, List.getElem_toArray, List.getElem_cons_succ, List.getElem_cons_zero])
        refine wpAnyJ_take (i := 14) (v := ?v14_15) rfl (by kernel_rfl) (by kernel_rfl) (by kernel_rfl) (by kernel_rfl) (fun _ _ _ h => h) (Or.inl (And.intro (by kernel_rfl) ?q14_15)) hS0 ?r14_15; (case q14_15 => (intro w hx; (try dsimp only); (try go_simp); (try with_reducible rfl)))
        (try simp only [Act.put, List.setIfInBounds_toArray, List.set_cons_zero, List.set_cons_succ, List.getElem_toArray, List.getElem_cons_succ, List.getElem_cons_zero])
        refine wpAnyJ_ready (rs := [15]) (by kernel_rfl) (by simp) ?_
        refine (AllReadyJ.cons rfl (fun K hK => ?_) AllReadyJ.nil)
        rw [if_pos (by kernel_rfl)]
        (try simp only [List.getElem_toArray, List.getElem_cons_succ, List.getElem_cons_zero])
        (focus go_simp)
        (focus ((with_reducible refine (CD.out _).mono ?_); rintro e wq ⟨rfl, bq⟩))
        (focus (try go_wp2_with fail))
        refine hK.out _ _ (by (first | with_reducible exact hS0 | with_reducible exact oq | exact Only.then hS0 bq)) (fun hS0 => ?_)
        clear hK K
        (try simp only [Act.put, List.setIfInBounds_toArray, List.set_cons_zero, List.set_cons_succ, List.getElem_toArray, List.getElem_cons_succ, List.getElem_cons_zero])
        refine wpAnyJ_take (i := 16) (v := ?v16_16) rfl (by kernel_rfl) (by kernel_rfl) (by kernel_rfl) (by kernel_rfl) (fun _ _ _ h => h) (Or.inl (And.intro (by kernel_rfl) ?q16_16)) hS0 ?r16_16; (case q16_16 => (intro w hx; (try dsimp only); (try go_simp); (try with_reducible rfl)))
        (try simp only [Act.put, List.setIfInBounds_toArray, List.set_cons_zero, List.set_cons_succ, List.getElem_toArray, List.getElem_cons_succ, List.getElem_cons_zero])
        refine wpAnyJ_take (i := 17) (v := ?v17_17) rfl (by kernel_rfl) (by kernel_rfl) (by kernel_rfl) (by kernel_rfl) (fun _ _ _ h => h) (Or.inl (And.intro (by kernel_rfl) ?q17_17)) hS0 ?r17_17; (case q17_17 => (intro w hx; (try dsimp only); (try go_simp); (try with_reducible rfl)))
        (try simp only [Act.put, List.setIfInBounds_toArray, List.set_cons_zero, List.set_cons_succ, List.getElem_toArray, List.getElem_cons_succ, List.getElem_cons_zero])
        refine wpAnyJ_take (i := 18) (v := ?v18_18) rfl (by kernel_rfl) (by kernel_rfl) (by kernel_rfl) (by kernel_rfl) (fun _ _ _ h => h) (Or.inl (And.intro (by kernel_rfl) ?q18_18)) hS0 ?r18_18; (case q18_18 => (intro w hx; (try dsimp only); (try go_simp); (try with_reducible rfl)))
        (try simp only [Act.put, List.setIfInBounds_toArray, List.set_cons_zero, List.set_cons_succ, List.getElem_toArray, List.getElem_cons_succ, List.getElem_cons_zero])
        refine wpAnyJ_take (i := 19) (v := ?v19_19) rfl (by kernel_rfl) (by kernel_rfl) (by kernel_rfl) (by kernel_rfl) (fun _ _ _ h => h) (Or.inl (And.intro (by kernel_rfl) ?q19_19)) hS0 ?r19_19; (case q19_19 => (intro w hx; (try dsimp only); (try go_simp); (try with_reducible rfl)))
        (try simp only [Act.put, List.setIfInBounds_toArray, List.set_cons_zero, List.set_cons_succ, List.getElem_toArray, List.getElem_cons_succ, List.getElem_cons_zero])
        refine wpAnyJ_take (i := 20) (v := ?v20_20) rfl (by kernel_rfl) (by kernel_rfl) (by kernel_rfl) (by kernel_rfl) (fun _ _ _ h => h) (Or.inl (And.intro (by kernel_rfl) ?q20_20)) hS0 ?r20_20; (case q20_20 => (intro w hx; (try dsimp only); (try go_simp); (try with_reducible rfl)))
        (try simp only [Act.put, List.setIfInBounds_toArray, List.set_cons_zero, List.set_cons_succ, List.getElem_toArray, List.getElem_cons_succ, List.getElem_cons_zero])
        refine wpAnyJ_ready (rs := [21]) (by kernel_rfl) (by simp) ?_
        refine (AllReadyJ.cons rfl (fun K hK => ?_) AllReadyJ.nil)
        rw [if_pos (by kernel_rfl)]
        (try simp only [List.getElem_toArray, List.getElem_cons_succ, List.getElem_cons_zero])
        (focus go_simp)
        (focus ((refine (CDEL.out _ (OX.out _ (by first | exact bq | exact Below.trans (Below.drew (Below.refl _ _)) bq | exact bstep (Below.drew (Below.refl _ _)) bq))).mono ?_); rintro e w8 ⟨rfl, v2, ts8, o8, hv8⟩; have oq := Only.trans (Only.then (Only.refl _ _ |>.drew) bq) o8))
        (focus (try go_wp2_with fail))
        refine hK.out _ _ (by (first | with_reducible exact hS0 | with_reducible exact oq | exact Only.then hS0 bq)) (fun hS0 => ?_)
        clear hK K
        (try simp only [Act.put, List.setIfInBounds_toArray, List.set_cons_zero, List.set_cons_succ, List.getElem_toArray, List.getElem_cons_succ, List.getElem_cons_zero])
        refine wpAnyJ_take (i := 22) (v := ?v22_21) rfl (by kernel_rfl) (by kernel_rfl) (by kernel_rfl) (by kernel_rfl) (fun _ _ _ h => h) (Or.inl (And.intro (by kernel_rfl) ?q22_21)) hS0 ?r22_21; (case q22_21 => (intro w hx; (try dsimp only); (try go_simp); (try with_reducible rfl)))
        (try simp only [Act.put, List.setIfInBounds_toArray, List.set_cons_zero, List.set_cons_succ, List.getElem_toArray, List.getElem_cons_succ, List.getElem_cons_zero])
        refine wpAnyJ_take (i := 23) (v := ?v23_22) rfl (by kernel_rfl) (by kernel_rfl) (by kernel_rfl) (by kernel_rfl) (fun _ _ _ h => h) (Or.inl (And.intro (by kernel_rfl) ?q23_22)) hS0 ?r23_22; (case q23_22 => (intro w hx; (try dsimp only); (try go_simp); (try with_reducible rfl)))
        (try simp only [Act.put, List.setIfInBounds_toArray, List.set_cons_zero, List.set_cons_succ, List.getElem_toArray, List.getElem_cons_succ, List.getElem_cons_zero])
        refine wpAnyJ_take (i := 24) (v := ?v24_23) rfl (by kernel_rfl) (by kernel_rfl) (by kernel_rfl) (by kernel_rfl) (fun _ _ _ h => h) (Or.inl (And.intro (by kernel_rfl) ?q24_23)) hS0 ?r24_23; (case q24_23 => (intro w hx; (try dsimp only); (try go_simp); (try with_reducible rfl)))
        (try simp only [Act.put, List.setIfInBounds_toArray, List.set_cons_zero, List.set_cons_succ, List.getElem_toArray, List.getElem_cons_succ, List.getElem_cons_zero])
        refine wpAnyJ_take (i := 25) (v := ?v25_24) rfl (by kernel_rfl) (by kernel_rfl) (by kernel_rfl) (by kernel_rfl) (fun _ _ _ h => h) (Or.inl (And.intro (by kernel_rfl) ?q25_24)) hS0 ?r25_24; (case q25_24 => (intro w hx; (try dsimp only); (try go_simp); (try with_reducible rfl)))
        (try simp only [Act.put, List.setIfInBounds_toArray, List.set_cons_zero, List.set_cons_succ, List.getElem_toArray, List.getElem_cons_succ, List.getElem_cons_zero])
        refine wpAnyJ_take (i := 26) (v := ?v26_25) rfl (by kernel_rfl) (by kernel_rfl) (by kernel_rfl) (by kernel_rfl) (fun _ _ _ h => h) (Or.inl (And.intro (by kernel_rfl) ?q26_25)) hS0 ?r26_25; (case q26_25 => (intro w hx; (try dsimp only); (try go_simp); (try with_reducible rfl)))
        (try simp only [Act.put, List.setIfInBounds_toArray, List.set_cons_zero, List.set_cons_succ, List.getElem_toArray, List.getElem_cons_succ, List.getElem_cons_zero])
        refine wpAnyJ_take (i := 27) (v := ?v27_26) rfl (by kernel_rfl) (by kernel_rfl) (by kernel_rfl) (by kernel_rfl) (fun _ _ _ h => h) (Or.inl (And.intro (by kernel_rfl) ?q27_26)) hS0 ?r27_26; (case q27_26 => (intro w hx; (try dsimp only); (try go_simp); (try with_reducible rfl)))
        (try simp only [Act.put, List.setIfInBounds_toArray, List.set_cons_zero, List.set_cons_succ, List.getElem_toArray, List.getElem_cons_succ, List.getElem_cons_zero])
        refine wpAnyJ_take (i := 28) (v := ?v28_27) rfl (by kernel_rfl) (by kernel_rfl) (by kernel_rfl) (by kernel_rfl) (fun _ _ _ h => h) (Or.inl (And.intro (by kernel_rfl) ?q28_27)) hS0 ?r28_27; (case q28_27 => (intro w hx; (try dsimp only); (try go_simp); (try with_reducible rfl)))
        (try simp only [Act.put, List.setIfInBounds_toArray, List.set_cons_zero, List.set_cons_succ, List.getElem_toArray, List.getElem_cons_succ, List.getElem_cons_zero])
        refine wpAnyJ_take (i := 29) (v := undef) rfl (by kernel_rfl) (by kernel_rfl) (by kernel_rfl) (by kernel_rfl) (fun _ _ _ h => h) (Or.inr (And.intro (by kernel_rfl) rfl)) hS0 ?r29_28
        (try simp only [Act.put, List.setIfInBounds_toArray, List.set_cons_zero, List.set_cons_succ, List.getElem_toArray, List.getElem_cons_succ, List.getElem_cons_zero])
        refine wpAnyJ_take (i := 30) (v := undef) rfl (by kernel_rfl) (by kernel_rfl) (by kernel_rfl) (by kernel_rfl) (fun _ _ _ h => h) (Or.inr (And.intro (by kernel_rfl) rfl)) hS0 ?r30_29
        (try simp only [Act.put, List.setIfInBounds_toArray, List.set_cons_zero, List.set_cons_succ, List.getElem_toArray, List.getElem_cons_succ, List.getElem_cons_zero])
        refine wpAnyJ_take (i := 31) (v := ?v31_30) rfl (by kernel_rfl) (by kernel_rfl) (by kernel_rfl) (by kernel_rfl) (fun _ _ _ h => h) (Or.inl (And.intro (by kernel_rfl) ?q31_30)) hS0 ?r31_30; (case q31_30 => (intro w hx; (try dsimp only); (try go_simp); (try with_reducible rfl)))
        (try simp only [Act.put, List.setIfInBounds_toArray, List.set_cons_zero, List.set_cons_succ, List.getElem_toArray, List.getElem_cons_succ, List.getElem_cons_zero])
        refine wpAnyJ_take (i := 32) (v := ?v32_31) rfl (by kernel_rfl) (by kernel_rfl) (by kernel_rfl) (by kernel_rfl) (fun _ _ _ h => h) (Or.inl (And.intro (by kernel_rfl) ?q32_31)) hS0 ?r32_31; (case q32_31 => (intro w hx; (try dsimp only); (try go_simp); (try with_reducible rfl)))
        (try simp only [Act.put, List.setIfInBounds_toArray, List.set_cons_zero, List.set_cons_succ, List.getElem_toArray, List.getElem_cons_succ, List.getElem_cons_zero])
        refine wpAnyJ_take (i := 33) (v := undef) rfl (by kernel_rfl) (by kernel_rfl) (by kernel_rfl) (by kernel_rfl) (fun _ _ _ h => h) (Or.inr (And.intro (by kernel_rfl) rfl)) hS0 ?r33_32
        (try simp only [Act.put, List.setIfInBounds_toArray, List.set_cons_zero, List.set_cons_succ, List.getElem_toArray, List.getElem_cons_succ, List.getElem_cons_zero])
        refine wpAnyJ_take (i := 34) (v := undef) rfl (by kernel_rfl) (by kernel_rfl) (by kernel_rfl) (by kernel_rfl) (fun _ _ _ h => h) (Or.inr (And.intro (by kernel_rfl) rfl)) hS0 ?r34_33
        (try simp only [Act.put, List.setIfInBounds_toArray, List.set_cons_zero, List.set_cons_succ, List.getElem_toArray, List.getElem_cons_succ, List.getElem_cons_zero])
        refine wpAnyJ_take (i := 35) (v := ?v35_34) rfl (by kernel_rfl) (by kernel_rfl) (by kernel_rfl) (by kernel_rfl) (fun _ _ _ h => h) (Or.inl (And.intro (by kernel_rfl) ?q35_34)) hS0 ?r35_34; (case q35_34 => (intro w hx; (try dsimp only); (try go_simp); (try with_reducible rfl)))
        (try simp only [Act.put, List.setIfInBounds_toArray, List.set_cons_zero, List.set_cons_succ, List.getElem_toArray, List.getElem_cons_succ, List.getElem_cons_zero])
        refine wpAnyJ_take (i := 36) (v := ?v36_35) rfl (by kernel_rfl) (by kernel_rfl) (by kernel_rfl) (by kernel_rfl) (fun _ _ _ h => h) (Or.inl (And.intro (by kernel_rfl) ?q36_35)) hS0 ?r36_35; (case q36_35 => (intro w hx; (try dsimp only); (try go_simp); (try with_reducible rfl)))
        (try simp only [Act.put, List.setIfInBounds_toArray, List.set_cons_zero, List.set_cons_succ, List.getElem_toArray, List.getElem_cons_succ, List.getElem_cons_zero])
        refine wpAnyJ_done (by kernel_rfl) ?_ _
      have two : Two B l v2 A1 c1 m w w8 := ⟨ts8, RM7.out.only hS0 (fun g hg e => by
          rcases e with e | e
          · exact (F3'.out g hg).1 e
          · exact (OW.out g e).2.1 hg), LW7.out.trans (hS0.below (fun g e => by
          have := HBw.out
          rcases e with e | e
          · omega
          · have := (OW.out g e).1; omega) LW7.out.size)⟩
      have TWO := hide two
      clear two hS0 oq bq ts8 o8 hv8 zn0 zn1 zn2 zn3 zn4 zn5 zn6 zn7 zn8 zn9 zn10 zd0 zd1 zd2 zd3 zd4 zd5 bb0 hg2 CDEL OX TS7 RM7 LW7 TS5 RM5 D5 OW F3' HBw LW
      generalize w8 = w9 at *
      have RM9 := fun g (hg : (Value.slice A1 m c1).ownBlock = some g) => TWO.out.rm.row hg
      have V9 := fun g (hg : v2.ownBlock = some g) => TWO.out.ts.row.row hg
      have S9 := Cells.lt TWO.out.ts.tbl
      have SZ := hide (TWO.out.bw.size)
      go_upto_region 13 with (go_at_call 22; (refine (t_List _ B _ _ _ _ _ TWO.out.ts (by have := GL.out.len; omega)).mono ?_); rintro e w10 ⟨vn2, rfl, r10, b10, f10⟩)
      obtain ⟨A3, c3, rfl⟩ := slice_of r10
      rw [← ML.out] at r10 f10 ⊢
      replace TWO := hide (TWO.out.below b10)
      have R10 := hide r10; have F10 := hide f10; have B10 := hide (show ∀ g, (Value.slice A1 m c1).ownBlock = some g → g < w9.heap.size from RM9)
      have V10 := hide V9; have S10 := hide S9
      clear r10 f10 b10 RM9 V9 S9
      generalize w10 = w11 at *
      go_wp2_with fail
      go_loopg [13] m (fun gg sj wr => ∃ kk : Nat, kk ≤ m ∧ m - kk ≤ gg ∧ sj = .int .i64 kk ∧ Aside (Two B l v2 A1 c1 m w wr ∧ RR wr (.slice A3 m c3) (struck l kk)))
      case atStart => exact ⟨0, Nat.zero_le _, by omega, rfl, ⟨TWO.out, by rw [struck_zero]; exact R10.out⟩⟩
      case round =>
        obtain ⟨kk, hkk, hg, rfl, BW⟩ := hrel
        by_cases hlt : kk < m
        · have hltz : (kk : Int) < (m : Int) := by omega
          have hl : kk < l.length := by have := ML.out; omega
          obtain ⟨r, hr⟩ : ∃ r, l[kk]? = some r := ⟨_, List.getElem?_eq_getElem hl⟩
          have rm := BW.out.1.rm
          have rn := BW.out.2
          obtain ⟨g1, hg1⟩ := slice_some rm (by omega)
          obtain ⟨g2, hg2⟩ := slice_some rn (by rw [struck_length (by omega)]; omega)
          cases hg1; cases hg2
          have z0 : ∀ W', Below wr.heap.size wr W' → World.cell? W' ⟨g1, kk * 11, none⟩ = some (.int .i64 r.k) := fun W' hW => RR.slot (i := 0) (RR.below rm hW) hl hr (by omega) rfl
          have z1 : ∀ W', Below wr.heap.size wr W' → World.cell? W' ⟨g1, kk * 11 + 1, none⟩ = some (.int .u8 r.p) := fun W' hW => RR.slot (i := 1) (RR.below rm hW) hl hr (by omega) rfl
          have z2 : ∀ W', Below wr.heap.size wr W' → World.cell? W' ⟨g1, kk * 11 + 2, none⟩ = some (.int .u32 r.sa) := fun W' hW => RR.slot (i := 2) (RR.below rm hW) hl hr (by omega) rfl
          have z3 : ∀ W', Below wr.heap.size wr W' → World.cell? W' ⟨g1, kk * 11 + 3, none⟩ = some (.int .i64 r.sb) := fun W' hW => RR.slot (i := 3) (RR.below rm hW) hl hr (by omega) rfl
          have z4 : ∀ W', Below wr.heap.size wr W' → World.cell? W' ⟨g1, kk * 11 + 4, none⟩ = some (.int .u32 r.da) := fun W' hW => RR.slot (i := 4) (RR.below rm hW) hl hr (by omega) rfl
          have z5 : ∀ W', Below wr.heap.size wr W' → World.cell? W' ⟨g1, kk * 11 + 5, none⟩ = some (.int .i64 r.db) := fun W' hW => RR.slot (i := 5) (RR.below rm hW) hl hr (by omega) rfl
          have z6 : ∀ W', Below wr.heap.size wr W' → World.cell? W' ⟨g1, kk * 11 + 6, none⟩ = some (.int .u32 r.e) := fun W' hW => RR.slot (i := 6) (RR.below rm hW) hl hr (by omega) rfl
          have z7 : ∀ W', Below wr.heap.size wr W' → World.cell? W' ⟨g1, kk * 11 + 7, none⟩ = some (.int .u16 r.f) := fun W' hW => RR.slot (i := 7) (RR.below rm hW) hl hr (by omega) rfl
          have z8 : ∀ W', Below wr.heap.size wr W' → World.cell? W' ⟨g1, kk * 11 + 8, none⟩ = some (.int .u16 r.t) := fun W' hW => RR.slot (i := 8) (RR.below rm hW) hl hr (by omega) rfl
          have z9 : ∀ W', Below wr.heap.size wr W' → World.cell? W' ⟨g1, kk * 11 + 9, none⟩ = some (.int .u32 r.ia) := fun W' hW => RR.slot (i := 9) (RR.below rm hW) hl hr (by omega) rfl
          have z10 : ∀ W', Below wr.heap.size wr W' → World.cell? W' ⟨g1, kk * 11 + 10, none⟩ = some (.int .u16 r.ip) := fun W' hW => RR.slot (i := 10) (RR.below rm hW) hl hr (by omega) rfl
          have y0 : ∀ W', Below wr.heap.size wr W' → World.cell? W' ⟨g2, kk * 11, none⟩ = some (.int .i64 r.k) := fun W' hW => RR.slot (i := 0) (RR.below rn hW) (by rw [struck_length (by omega)]; exact hl) ((struck_at hl).trans hr) (by omega) rfl
          have y1 : ∀ W', Below wr.heap.size wr W' → World.cell? W' ⟨g2, kk * 11 + 1, none⟩ = some (.int .u8 r.p) := fun W' hW => RR.slot (i := 1) (RR.below rn hW) (by rw [struck_length (by omega)]; exact hl) ((struck_at hl).trans hr) (by omega) rfl
          have y2 : ∀ W', Below wr.heap.size wr W' → World.cell? W' ⟨g2, kk * 11 + 2, none⟩ = some (.int .u32 r.sa) := fun W' hW => RR.slot (i := 2) (RR.below rn hW) (by rw [struck_length (by omega)]; exact hl) ((struck_at hl).trans hr) (by omega) rfl
          have y3 : ∀ W', Below wr.heap.size wr W' → World.cell? W' ⟨g2, kk * 11 + 3, none⟩ = some (.int .i64 r.sb) := fun W' hW => RR.slot (i := 3) (RR.below rn hW) (by rw [struck_length (by omega)]; exact hl) ((struck_at hl).trans hr) (by omega) rfl
          have y4 : ∀ W', Below wr.heap.size wr W' → World.cell? W' ⟨g2, kk * 11 + 4, none⟩ = some (.int .u32 r.da) := fun W' hW => RR.slot (i := 4) (RR.below rn hW) (by rw [struck_length (by omega)]; exact hl) ((struck_at hl).trans hr) (by omega) rfl
          have y5 : ∀ W', Below wr.heap.size wr W' → World.cell? W' ⟨g2, kk * 11 + 5, none⟩ = some (.int .i64 r.db) := fun W' hW => RR.slot (i := 5) (RR.below rn hW) (by rw [struck_length (by omega)]; exact hl) ((struck_at hl).trans hr) (by omega) rfl
          have y6 : ∀ W', Below wr.heap.size wr W' → World.cell? W' ⟨g2, kk * 11 + 6, none⟩ = some (.int .u32 r.e) := fun W' hW => RR.slot (i := 6) (RR.below rn hW) (by rw [struck_length (by omega)]; exact hl) ((struck_at hl).trans hr) (by omega) rfl
          have y7 : ∀ W', Below wr.heap.size wr W' → World.cell? W' ⟨g2, kk * 11 + 7, none⟩ = some (.int .u16 r.f) := fun W' hW => RR.slot (i := 7) (RR.below rn hW) (by rw [struck_length (by omega)]; exact hl) ((struck_at hl).trans hr) (by omega) rfl
          have y8 : ∀ W', Below wr.heap.size wr W' → World.cell? W' ⟨g2, kk * 11 + 8, none⟩ = some (.int .u16 r.t) := fun W' hW => RR.slot (i := 8) (RR.below rn hW) (by rw [struck_length (by omega)]; exact hl) ((struck_at hl).trans hr) (by omega) rfl
          have y9 : ∀ W', Below wr.heap.size wr W' → World.cell? W' ⟨g2, kk * 11 + 9, none⟩ = some (.int .u32 r.ia) := fun W' hW => RR.slot (i := 9) (RR.below rn hW) (by rw [struck_length (by omega)]; exact hl) ((struck_at hl).trans hr) (by omega) rfl
          have y10 : ∀ W', Below wr.heap.size wr W' → World.cell? W' ⟨g2, kk * 11 + 10, none⟩ = some (.int .u16 r.ip) := fun W' hW => RR.slot (i := 10) (RR.below rn hW) (by rw [struck_length (by omega)]; exact hl) ((struck_at hl).trans hr) (by omega) rfl
          have bb : Below wr.heap.size wr wr := Below.refl _ _
          have fz : ∀ W' i, Below wr.heap.size wr W' → World.frozen? W' ⟨g2, i, none⟩ = false := fun W' i h => RR.free (RR.below rn h) (by intro e; have h := congrArg List.length e; rw [struck_length (by omega)] at h; have h' : l.length = 0 := h; omega) i
          have RMH := hide rm; have RNH := hide rn; have HRR := hide hr; have BW' := hide BW
          clear rm rn hr BW
          go_upto_region 18 with fail
          focus
            refine wp_region_J [] (fun W => Below wr.heap.size wr W) (by kernel_rfl) (bb.drew) (fun hS0 => ?_)
            refine wpAnyJ_take (i := 0) (v := ?v0_36) rfl (by kernel_rfl) (by kernel_rfl) (by kernel_rfl) (by kernel_rfl) (fun _ _ _ h => h) (Or.inl (And.intro (by kernel_rfl) ?q0_36)) hS0 ?r0_36; (case q0_36 => (intro w hx; (try dsimp only); (try go_simp); (try with_reducible rfl)))
            (try simp only [Act.put, List.setIfInBounds_toArray, List.set_cons_zero, List.set_cons_succ, List.getElem_toArray, List.getElem_cons_succ, List.getElem_cons_zero])
            refine wpAnyJ_take (i := 1) (v := ?v1_37) rfl (by kernel_rfl) (by kernel_rfl) (by kernel_rfl) (by kernel_rfl) (fun _ _ _ h => h) (Or.inl (And.intro (by kernel_rfl) ?q1_37)) hS0 ?r1_37; (case q1_37 => (intro w hx; (try dsimp only); (try go_simp); (try with_reducible rfl)))
            (try simp only [Act.put, List.setIfInBounds_toArray, List.set_cons_zero, List.set_cons_succ, List.getElem_toArray, List.getElem_cons_succ, List.getElem_cons_zero])
            refine wpAnyJ_take (i := 2) (v := ?v2_38) rfl (by kernel_rfl) (by kernel_rfl) (by kernel_rfl) (by kernel_rfl) (fun _ _ _ h => h) (Or.inl (And.intro (by kernel_rfl) ?q2_38)) hS0 ?r2_38; (case q2_38 => (intro w hx; (try dsimp only); (try go_simp); (try with_reducible rfl)))
            (try simp only [Act.put, List.setIfInBounds_toArray, List.set_cons_zero, List.set_cons_succ, List.getElem_toArray, List.getElem_cons_succ, List.getElem_cons_zero])
            refine wpAnyJ_take (i := 3) (v := ?v3_39) rfl (by kernel_rfl) (by kernel_rfl) (by kernel_rfl) (by kernel_rfl) (fun _ _ _ h => h) (Or.inl (And.intro (by kernel_rfl) ?q3_39)) hS0 ?r3_39; (case q3_39 => (intro w hx; (try dsimp only); (try go_simp); (try with_reducible rfl)))
            (try simp only [Act.put, List.setIfInBounds_toArray, List.set_cons_zero, List.set_cons_succ, List.getElem_toArray, List.getElem_cons_succ, List.getElem_cons_zero])
            refine wpAnyJ_take (i := 4) (v := ?v4_40) rfl (by kernel_rfl) (by kernel_rfl) (by kernel_rfl) (by kernel_rfl) (fun _ _ _ h => h) (Or.inl (And.intro (by kernel_rfl) ?q4_40)) hS0 ?r4_40; (case q4_40 => (intro w hx; (try dsimp only); (try go_simp); (try with_reducible rfl)))
            (try simp only [Act.put, List.setIfInBounds_toArray, List.set_cons_zero, List.set_cons_succ, List.getElem_toArray, List.getElem_cons_succ, List.getElem_cons_zero])
            refine wpAnyJ_take (i := 5) (v := ?v5_41) rfl (by kernel_rfl) (by kernel_rfl) (by kernel_rfl) (by kernel_rfl) (fun _ _ _ h => h) (Or.inl (And.intro (by kernel_rfl) ?q5_41)) hS0 ?r5_41; (case q5_41 => (intro w hx; (try dsimp only); (try go_simp); (try with_reducible rfl)))
            (try simp only [Act.put, List.setIfInBounds_toArray, List.set_cons_zero, List.set_cons_succ, List.getElem_toArray, List.getElem_cons_succ, List.getElem_cons_zero])
            refine wpAnyJ_take (i := 6) (v := ?v6_42) rfl (by kernel_rfl) (by kernel_rfl) (by kernel_rfl) (by kernel_rfl) (fun _ _ _ h => h) (Or.inl (And.intro (by kernel_rfl) ?q6_42)) hS0 ?r6_42; (case q6_42 => (intro w hx; (try dsimp only); (try go_simp); (try with_reducible rfl)))
            (try simp only [Act.put, List.setIfInBounds_toArray, List.set_cons_zero, List.set_cons_succ, List.getElem_toArray, List.getElem_cons_succ, List.getElem_cons_zero])
            refine wpAnyJ_take (i := 7) (v := ?v7_43) rfl (by kernel_rfl) (by kernel_rfl) (by kernel_rfl) (by kernel_rfl) (fun _ _ _ h => h) (Or.inl (And.intro (by kernel_rfl) ?q7_43)) hS0 ?r7_43; (case q7_43 => (intro w hx; (try dsimp only); (try go_simp); (try with_reducible rfl)))
            (try simp only [Act.put, List.setIfInBounds_toArray, List.set_cons_zero, List.set_cons_succ, List.getElem_toArray, List.getElem_cons_succ, List.getElem_cons_zero])
            refine wpAnyJ_take (i := 8) (v := ?v8_44) rfl (by kernel_rfl) (by kernel_rfl) (by kernel_rfl) (by kernel_rfl) (fun _ _ _ h => h) (Or.inl (And.intro (by kernel_rfl) ?q8_44)) hS0 ?r8_44; (case q8_44 => (intro w hx; (try dsimp only); (try go_simp); (try with_reducible rfl)))
            (try simp only [Act.put, List.setIfInBounds_toArray, List.set_cons_zero, List.set_cons_succ, List.getElem_toArray, List.getElem_cons_succ, List.getElem_cons_zero])
            refine wpAnyJ_done (by kernel_rfl) ?_ _
          go_wp2_with fail
          go_roundg (m - (kk + 1))
          case measure => omega
          case rel =>
            have k1 := BW'.out.out.1
            have k2 := RNH.out
            have hga := F10.out g2 rfl
            have hs := RR.set k2 kk (by rw [struck_length (by omega)]; exact hl) zeroR
            rw [struck_set hl] at hs
            have ht := Two.set k1 g2 (kk * 11) zeroR.cells.toList (by have := S10.out; omega) (fun e => by have h7 : g2 < w9.heap.size := V10.out g2 e; omega) (fun e => by have h7 : g2 < w9.heap.size := B10.out g2 e; omega) (by have := SZ.out; omega)
            exact ⟨kk + 1, by omega, by omega, by go_num, (show Aside _ from ⟨Two.below ht (Below.refl _ _).drew, RR.below hs (Below.refl _ _).drew⟩)⟩
        · have hltz : ¬ (kk : Int) < (m : Int) := by omega
          have hmk : m = kk := by omega
          subst hmk
          have TW := hide BW.out.1
          clear BW
          go_upto_region 22 with (go_at_call 22; (refine (t_List _ B _ _ _ _ _ TW.out.ts (by have := GL.out.len; omega)).mono ?_); rintro e w12 ⟨vn3, rfl, r12, b12, f12⟩)
          obtain ⟨A4, c4, rfl⟩ := slice_of r12
          rw [← ML.out] at r12 ⊢
          replace TW := hide (TW.out.below b12)
          have R12 := hide r12
          clear r12 f12 b12 R10 F10 B10 V10 S10 SZ
          generalize w12 = w13 at *
          go_wp2_with fail
          go_loopg [14] m (fun gg sj wr => ∃ kk : Nat, kk ≤ m ∧ m - kk ≤ gg ∧ sj = .int .i64 kk ∧ Aside (Two B l v2 A1 c1 m w wr ∧ RR wr (.slice A4 m c4) l))
          case atStart => exact ⟨0, Nat.zero_le _, by omega, rfl, ⟨TW.out, R12.out⟩⟩
          case round =>
            obtain ⟨kk, hkk, hg, rfl, BW⟩ := hrel
            by_cases hlt : kk < m
            · have hltz : (kk : Int) < (m : Int) := by omega
              have hl : kk < l.length := by have := ML.out; omega
              obtain ⟨r, hr⟩ : ∃ r, l[kk]? = some r := ⟨_, List.getElem?_eq_getElem hl⟩
              have rm := BW.out.1.rm
              have rn := BW.out.2
              obtain ⟨g1, hg1⟩ := slice_some rm (by omega)
              obtain ⟨g2, hg2⟩ := slice_some rn (by omega)
              cases hg1; cases hg2
              have z0 : ∀ W', Below wr.heap.size wr W' → World.cell? W' ⟨g1, kk * 11, none⟩ = some (.int .i64 r.k) := fun W' hW => RR.slot (i := 0) (RR.below rm hW) hl hr (by omega) rfl
              have z1 : ∀ W', Below wr.heap.size wr W' → World.cell? W' ⟨g1, kk * 11 + 1, none⟩ = some (.int .u8 r.p) := fun W' hW => RR.slot (i := 1) (RR.below rm hW) hl hr (by omega) rfl
              have z2 : ∀ W', Below wr.heap.size wr W' → World.cell? W' ⟨g1, kk * 11 + 2, none⟩ = some (.int .u32 r.sa) := fun W' hW => RR.slot (i := 2) (RR.below rm hW) hl hr (by omega) rfl
              have z3 : ∀ W', Below wr.heap.size wr W' → World.cell? W' ⟨g1, kk * 11 + 3, none⟩ = some (.int .i64 r.sb) := fun W' hW => RR.slot (i := 3) (RR.below rm hW) hl hr (by omega) rfl
              have z4 : ∀ W', Below wr.heap.size wr W' → World.cell? W' ⟨g1, kk * 11 + 4, none⟩ = some (.int .u32 r.da) := fun W' hW => RR.slot (i := 4) (RR.below rm hW) hl hr (by omega) rfl
              have z5 : ∀ W', Below wr.heap.size wr W' → World.cell? W' ⟨g1, kk * 11 + 5, none⟩ = some (.int .i64 r.db) := fun W' hW => RR.slot (i := 5) (RR.below rm hW) hl hr (by omega) rfl
              have z6 : ∀ W', Below wr.heap.size wr W' → World.cell? W' ⟨g1, kk * 11 + 6, none⟩ = some (.int .u32 r.e) := fun W' hW => RR.slot (i := 6) (RR.below rm hW) hl hr (by omega) rfl
              have z7 : ∀ W', Below wr.heap.size wr W' → World.cell? W' ⟨g1, kk * 11 + 7, none⟩ = some (.int .u16 r.f) := fun W' hW => RR.slot (i := 7) (RR.below rm hW) hl hr (by omega) rfl
              have z8 : ∀ W', Below wr.heap.size wr W' → World.cell? W' ⟨g1, kk * 11 + 8, none⟩ = some (.int .u16 r.t) := fun W' hW => RR.slot (i := 8) (RR.below rm hW) hl hr (by omega) rfl
              have z9 : ∀ W', Below wr.heap.size wr W' → World.cell? W' ⟨g1, kk * 11 + 9, none⟩ = some (.int .u32 r.ia) := fun W' hW => RR.slot (i := 9) (RR.below rm hW) hl hr (by omega) rfl
              have z10 : ∀ W', Below wr.heap.size wr W' → World.cell? W' ⟨g1, kk * 11 + 10, none⟩ = some (.int .u16 r.ip) := fun W' hW => RR.slot (i := 10) (RR.below rm hW) hl hr (by omega) rfl
              have y0 : ∀ W', Below wr.heap.size wr W' → World.cell? W' ⟨g2, kk * 11, none⟩ = some (.int .i64 r.k) := fun W' hW => RR.slot (i := 0) (RR.below rn hW) hl hr (by omega) rfl
              have y1 : ∀ W', Below wr.heap.size wr W' → World.cell? W' ⟨g2, kk * 11 + 1, none⟩ = some (.int .u8 r.p) := fun W' hW => RR.slot (i := 1) (RR.below rn hW) hl hr (by omega) rfl
              have y2 : ∀ W', Below wr.heap.size wr W' → World.cell? W' ⟨g2, kk * 11 + 2, none⟩ = some (.int .u32 r.sa) := fun W' hW => RR.slot (i := 2) (RR.below rn hW) hl hr (by omega) rfl
              have y3 : ∀ W', Below wr.heap.size wr W' → World.cell? W' ⟨g2, kk * 11 + 3, none⟩ = some (.int .i64 r.sb) := fun W' hW => RR.slot (i := 3) (RR.below rn hW) hl hr (by omega) rfl
              have y4 : ∀ W', Below wr.heap.size wr W' → World.cell? W' ⟨g2, kk * 11 + 4, none⟩ = some (.int .u32 r.da) := fun W' hW => RR.slot (i := 4) (RR.below rn hW) hl hr (by omega) rfl
              have y5 : ∀ W', Below wr.heap.size wr W' → World.cell? W' ⟨g2, kk * 11 + 5, none⟩ = some (.int .i64 r.db) := fun W' hW => RR.slot (i := 5) (RR.below rn hW) hl hr (by omega) rfl
              have y6 : ∀ W', Below wr.heap.size wr W' → World.cell? W' ⟨g2, kk * 11 + 6, none⟩ = some (.int .u32 r.e) := fun W' hW => RR.slot (i := 6) (RR.below rn hW) hl hr (by omega) rfl
              have y7 : ∀ W', Below wr.heap.size wr W' → World.cell? W' ⟨g2, kk * 11 + 7, none⟩ = some (.int .u16 r.f) := fun W' hW => RR.slot (i := 7) (RR.below rn hW) hl hr (by omega) rfl
              have y8 : ∀ W', Below wr.heap.size wr W' → World.cell? W' ⟨g2, kk * 11 + 8, none⟩ = some (.int .u16 r.t) := fun W' hW => RR.slot (i := 8) (RR.below rn hW) hl hr (by omega) rfl
              have y9 : ∀ W', Below wr.heap.size wr W' → World.cell? W' ⟨g2, kk * 11 + 9, none⟩ = some (.int .u32 r.ia) := fun W' hW => RR.slot (i := 9) (RR.below rn hW) hl hr (by omega) rfl
              have y10 : ∀ W', Below wr.heap.size wr W' → World.cell? W' ⟨g2, kk * 11 + 10, none⟩ = some (.int .u16 r.ip) := fun W' hW => RR.slot (i := 10) (RR.below rn hW) hl hr (by omega) rfl
              have bb : Below wr.heap.size wr wr := Below.refl _ _
              have RMH := hide rm; have RNH := hide rn; have HRR := hide hr; have BW' := hide BW
              clear rm rn hr BW
              go_upto_region 25 with fail
              focus
                refine wp_region_J [] (fun W => Below wr.heap.size wr W) (by kernel_rfl) (bb.drew) (fun hS0 => ?_)
                refine wpAnyJ_take (i := 0) (v := ?v0_45) rfl (by kernel_rfl) (by kernel_rfl) (by kernel_rfl) (by kernel_rfl) (fun _ _ _ h => h) (Or.inl (And.intro (by kernel_rfl) ?q0_45)) hS0 ?r0_45; (case q0_45 => (intro w hx; (try dsimp only); (try go_simp); (try with_reducible rfl)))
                (try simp only [Act.put, List.setIfInBounds_toArray, List.set_cons_zero, List.set_cons_succ, List.getElem_toArray, List.getElem_cons_succ, List.getElem_cons_zero])
                refine wpAnyJ_take (i := 1) (v := ?v1_46) rfl (by kernel_rfl) (by kernel_rfl) (by kernel_rfl) (by kernel_rfl) (fun _ _ _ h => h) (Or.inl (And.intro (by kernel_rfl) ?q1_46)) hS0 ?r1_46; (case q1_46 => (intro w hx; (try dsimp only); (try go_simp); (try with_reducible rfl)))
                (try simp only [Act.put, List.setIfInBounds_toArray, List.set_cons_zero, List.set_cons_succ, List.getElem_toArray, List.getElem_cons_succ, List.getElem_cons_zero])
                refine wpAnyJ_take (i := 2) (v := ?v2_47) rfl (by kernel_rfl) (by kernel_rfl) (by kernel_rfl) (by kernel_rfl) (fun _ _ _ h => h) (Or.inl (And.intro (by kernel_rfl) ?q2_47)) hS0 ?r2_47; (case q2_47 => (intro w hx; (try dsimp only); (try go_simp); (try with_reducible rfl)))
                (try simp only [Act.put, List.setIfInBounds_toArray, List.set_cons_zero, List.set_cons_succ, List.getElem_toArray, List.getElem_cons_succ, List.getElem_cons_zero])
                refine wpAnyJ_take (i := 3) (v := ?v3_48) rfl (by kernel_rfl) (by kernel_rfl) (by kernel_rfl) (by kernel_rfl) (fun _ _ _ h => h) (Or.inl (And.intro (by kernel_rfl) ?q3_48)) hS0 ?r3_48; (case q3_48 => (intro w hx; (try dsimp only); (try go_simp); (try with_reducible rfl)))
                (try simp only [Act.put, List.setIfInBounds_toArray, List.set_cons_zero, List.set_cons_succ, List.getElem_toArray, List.getElem_cons_succ, List.getElem_cons_zero])
                refine wpAnyJ_take (i := 4) (v := ?v4_49) rfl (by kernel_rfl) (by kernel_rfl) (by kernel_rfl) (by kernel_rfl) (fun _ _ _ h => h) (Or.inl (And.intro (by kernel_rfl) ?q4_49)) hS0 ?r4_49; (case q4_49 => (intro w hx; (try dsimp only); (try go_simp); (try with_reducible rfl)))
                (try simp only [Act.put, List.setIfInBounds_toArray, List.set_cons_zero, List.set_cons_succ, List.getElem_toArray, List.getElem_cons_succ, List.getElem_cons_zero])
                refine wpAnyJ_take (i := 5) (v := ?v5_50) rfl (by kernel_rfl) (by kernel_rfl) (by kernel_rfl) (by kernel_rfl) (fun _ _ _ h => h) (Or.inl (And.intro (by kernel_rfl) ?q5_50)) hS0 ?r5_50; (case q5_50 => (intro w hx; (try dsimp only); (try go_simp); (try with_reducible rfl)))
                (try simp only [Act.put, List.setIfInBounds_toArray, List.set_cons_zero, List.set_cons_succ, List.getElem_toArray, List.getElem_cons_succ, List.getElem_cons_zero])
                refine wpAnyJ_take (i := 6) (v := ?v6_51) rfl (by kernel_rfl) (by kernel_rfl) (by kernel_rfl) (by kernel_rfl) (fun _ _ _ h => h) (Or.inl (And.intro (by kernel_rfl) ?q6_51)) hS0 ?r6_51; (case q6_51 => (intro w hx; (try dsimp only); (try go_simp); (try with_reducible rfl)))
                (try simp only [Act.put, List.setIfInBounds_toArray, List.set_cons_zero, List.set_cons_succ, List.getElem_toArray, List.getElem_cons_succ, List.getElem_cons_zero])
                refine wpAnyJ_take (i := 7) (v := ?v7_52) rfl (by kernel_rfl) (by kernel_rfl) (by kernel_rfl) (by kernel_rfl) (fun _ _ _ h => h) (Or.inl (And.intro (by kernel_rfl) ?q7_52)) hS0 ?r7_52; (case q7_52 => (intro w hx; (try dsimp only); (try go_simp); (try with_reducible rfl)))
                (try simp only [Act.put, List.setIfInBounds_toArray, List.set_cons_zero, List.set_cons_succ, List.getElem_toArray, List.getElem_cons_succ, List.getElem_cons_zero])
                refine wpAnyJ_take (i := 8) (v := ?v8_53) rfl (by kernel_rfl) (by kernel_rfl) (by kernel_rfl) (by kernel_rfl) (fun _ _ _ h => h) (Or.inl (And.intro (by kernel_rfl) ?q8_53)) hS0 ?r8_53; (case q8_53 => (intro w hx; (try dsimp only); (try go_simp); (try with_reducible rfl)))
                (try simp only [Act.put, List.setIfInBounds_toArray, List.set_cons_zero, List.set_cons_succ, List.getElem_toArray, List.getElem_cons_succ, List.getElem_cons_zero])
                refine wpAnyJ_done (by kernel_rfl) ?_ _
              go_wp2_with fail
              go_roundg (m - (kk + 1))
              case measure => omega
              case rel =>
                exact ⟨kk + 1, by omega, by omega, by go_num, (show Aside _ from ⟨Two.below BW'.out.out.1 hS0, RR.below BW'.out.out.2 hS0⟩)⟩
            · have hltz : ¬ (kk : Int) < (m : Int) := by omega
              have hmk : m = kk := by omega
              subst hmk
              have TX := hide BW.out.1.bw
              clear BW
              go_wp2_with (go_at_call 11; (with_reducible refine (CR.out _).mono ?_); rintro e w14 ⟨rfl, b14⟩)
              go_ret
              exact ⟨rfl, bstep TX.out b14⟩
    · have hLl : l = L' := (HNO.out (by decide)).symm
      subst hLl
      go_upto_region 10 with (go_at_call 22; (refine (t_List _ B _ _ _ _ _ TS5.out (by have := GL.out.len; omega)).mono ?_); rintro e w7 ⟨vn, rfl, r7, b7, f7⟩)
      have two : Two B l v1 A1 c1 m w w7 := ⟨TS5.out.below b7, RM5.out.below b7, bstep LW.out b7⟩
      obtain ⟨A2, c2, rfl⟩ := slice_of r7
      have bb : Below w7.heap.size w7 w7 := Below.refl _ _
      have TWO := hide two
      clear two r7 b7 f7 TS5 RM5 D5 OW F3' HBw LW
      focus
        refine wp_region_J [] (fun W => Below w7.heap.size w7 W) (by kernel_rfl) (bb.drew) (fun hS0 => ?_)
        refine wpAnyJ_take (i := 0) (v := ?v0_54) rfl (by kernel_rfl) (by kernel_rfl) (by kernel_rfl) (by kernel_rfl) (fun _ _ _ h => h) (Or.inl (And.intro (by kernel_rfl) ?q0_54)) hS0 ?r0_54; (case q0_54 => (intro w hx; (try dsimp only); (try go_simp); (try with_reducible rfl)))
        (try simp only [Act.put, List.setIfInBounds_toArray, List.set_cons_zero, List.set_cons_succ, List.getElem_toArray, List.getElem_cons_succ, List.getElem_cons_zero])
        refine wpAnyJ_take (i := 1) (v := ?v1_55) rfl (by kernel_rfl) (by kernel_rfl) (by kernel_rfl) (by kernel_rfl) (fun _ _ _ h => h) (Or.inl (And.intro (by kernel_rfl) ?q1_55)) hS0 ?r1_55; (case q1_55 => (intro w hx; (try dsimp only); (try go_simp); (try with_reducible rfl)))
        (try simp only [Act.put, List.setIfInBounds_toArray, List.set_cons_zero, List.set_cons_succ, List.getElem_toArray, List.getElem_cons_succ, List.getElem_cons_zero])
        refine wpAnyJ_take (i := 2) (v := ?v2_56) rfl (by kernel_rfl) (by kernel_rfl) (by kernel_rfl) (by kernel_rfl) (fun _ _ _ h => h) (Or.inl (And.intro (by kernel_rfl) ?q2_56)) hS0 ?r2_56; (case q2_56 => (intro w hx; (try dsimp only); (try go_simp); (try with_reducible rfl)))
        (try simp only [Act.put, List.setIfInBounds_toArray, List.set_cons_zero, List.set_cons_succ, List.getElem_toArray, List.getElem_cons_succ, List.getElem_cons_zero])
        refine wpAnyJ_take (i := 3) (v := undef) rfl (by kernel_rfl) (by kernel_rfl) (by kernel_rfl) (by kernel_rfl) (fun _ _ _ h => h) (Or.inr (And.intro (by kernel_rfl) rfl)) hS0 ?r3_57
        (try simp only [Act.put, List.setIfInBounds_toArray, List.set_cons_zero, List.set_cons_succ, List.getElem_toArray, List.getElem_cons_succ, List.getElem_cons_zero])
        refine wpAnyJ_take (i := 4) (v := undef) rfl (by kernel_rfl) (by kernel_rfl) (by kernel_rfl) (by kernel_rfl) (fun _ _ _ h => h) (Or.inr (And.intro (by kernel_rfl) rfl)) hS0 ?r4_58
        (try simp only [Act.put, List.setIfInBounds_toArray, List.set_cons_zero, List.set_cons_succ, List.getElem_toArray, List.getElem_cons_succ, List.getElem_cons_zero])
        refine wpAnyJ_take (i := 5) (v := undef) rfl (by kernel_rfl) (by kernel_rfl) (by kernel_rfl) (by kernel_rfl) (fun _ _ _ h => h) (Or.inr (And.intro (by kernel_rfl) rfl)) hS0 ?r5_59
        (try simp only [Act.put, List.setIfInBounds_toArray, List.set_cons_zero, List.set_cons_succ, List.getElem_toArray, List.getElem_cons_succ, List.getElem_cons_zero])
        refine wpAnyJ_take (i := 6) (v := undef) rfl (by kernel_rfl) (by kernel_rfl) (by kernel_rfl) (by kernel_rfl) (fun _ _ _ h => h) (Or.inr (And.intro (by kernel_rfl) rfl)) hS0 ?r6_60
        (try simp only [Act.put, List.setIfInBounds_toArray, List.set_cons_zero, List.set_cons_succ, List.getElem_toArray, List.getElem_cons_succ, List.getElem_cons_zero])
        refine wpAnyJ_take (i := 7) (v := undef) rfl (by kernel_rfl) (by kernel_rfl) (by kernel_rfl) (by kernel_rfl) (fun _ _ _ h => h) (Or.inr (And.intro (by kernel_rfl) rfl)) hS0 ?r7_61
        (try simp only [Act.put, List.setIfInBounds_toArray, List.set_cons_zero, List.set_cons_succ, List.getElem_toArray, List.getElem_cons_succ, List.getElem_cons_zero])
        refine wpAnyJ_take (i := 8) (v := undef) rfl (by kernel_rfl) (by kernel_rfl) (by kernel_rfl) (by kernel_rfl) (fun _ _ _ h => h) (Or.inr (And.intro (by kernel_rfl) rfl)) hS0 ?r8_62
        (try simp only [Act.put, List.setIfInBounds_toArray, List.set_cons_zero, List.set_cons_succ, List.getElem_toArray, List.getElem_cons_succ, List.getElem_cons_zero])
        refine wpAnyJ_take (i := 9) (v := undef) rfl (by kernel_rfl) (by kernel_rfl) (by kernel_rfl) (by kernel_rfl) (fun _ _ _ h => h) (Or.inr (And.intro (by kernel_rfl) rfl)) hS0 ?r9_63
        (try simp only [Act.put, List.setIfInBounds_toArray, List.set_cons_zero, List.set_cons_succ, List.getElem_toArray, List.getElem_cons_succ, List.getElem_cons_zero])
        refine wpAnyJ_take (i := 10) (v := undef) rfl (by kernel_rfl) (by kernel_rfl) (by kernel_rfl) (by kernel_rfl) (fun _ _ _ h => h) (Or.inr (And.intro (by kernel_rfl) rfl)) hS0 ?r10_64
        (try simp only [Act.put, List.setIfInBounds_toArray, List.set_cons_zero, List.set_cons_succ, List.getElem_toArray, List.getElem_cons_succ, List.getElem_cons_zero])
        refine wpAnyJ_take (i := 11) (v := undef) rfl (by kernel_rfl) (by kernel_rfl) (by kernel_rfl) (by kernel_rfl) (fun _ _ _ h => h) (Or.inr (And.intro (by kernel_rfl) rfl)) hS0 ?r11_65
        (try simp only [Act.put, List.setIfInBounds_toArray, List.set_cons_zero, List.set_cons_succ, List.getElem_toArray, List.getElem_cons_succ, List.getElem_cons_zero])
        refine wpAnyJ_take (i := 12) (v := undef) rfl (by kernel_rfl) (by kernel_rfl) (by kernel_rfl) (by kernel_rfl) (fun _ _ _ h => h) (Or.inr (And.intro (by kernel_rfl) rfl)) hS0 ?r12_66
        (try simp only [Act.put, List.setIfInBounds_toArray, List.set_cons_zero, List.set_cons_succ, List.getElem_toArray, List.getElem_cons_succ, List.getElem_cons_zero])
        refine wpAnyJ_take (i := 13) (v := undef) rfl (by kernel_rfl) (by kernel_rfl) (by kernel_rfl) (by kernel_rfl) (fun _ _ _ h => h) (Or.inr (And.intro (by kernel_rfl) rfl)) hS0 ?r13_67
        (try simp only [Act.put, List.setIfInBounds_toArray, List.set_cons_zero, List.set_cons_succ, List.getElem_toArray, List.getElem_cons_succ, List.getElem_cons_zero])
        refine wpAnyJ_take (i := 14) (v := undef) rfl (by kernel_rfl) (by kernel_rfl) (by kernel_rfl) (by kernel_rfl) (fun _ _ _ h => h) (Or.inr (And.intro (by kernel_rfl) rfl)) hS0 ?r14_68
        (try simp only [Act.put, List.setIfInBounds_toArray, List.set_cons_zero, List.set_cons_succ, List.getElem_toArray, List.getElem_cons_succ, List.getElem_cons_zero])
        refine wpAnyJ_take (i := 15) (v := undef) rfl (by kernel_rfl) (by kernel_rfl) (by kernel_rfl) (by kernel_rfl) (fun _ _ _ h => h) (Or.inr (And.intro (by kernel_rfl) rfl)) hS0 ?r15_69
        (try simp only [Act.put, List.setIfInBounds_toArray, List.set_cons_zero, List.set_cons_succ, List.getElem_toArray, List.getElem_cons_succ, List.getElem_cons_zero])
        refine wpAnyJ_take (i := 16) (v := undef) rfl (by kernel_rfl) (by kernel_rfl) (by kernel_rfl) (by kernel_rfl) (fun _ _ _ h => h) (Or.inr (And.intro (by kernel_rfl) rfl)) hS0 ?r16_70
        (try simp only [Act.put, List.setIfInBounds_toArray, List.set_cons_zero, List.set_cons_succ, List.getElem_toArray, List.getElem_cons_succ, List.getElem_cons_zero])
        refine wpAnyJ_take (i := 17) (v := undef) rfl (by kernel_rfl) (by kernel_rfl) (by kernel_rfl) (by kernel_rfl) (fun _ _ _ h => h) (Or.inr (And.intro (by kernel_rfl) rfl)) hS0 ?r17_71
        (try simp only [Act.put, List.setIfInBounds_toArray, List.set_cons_zero, List.set_cons_succ, List.getElem_toArray, List.getElem_cons_succ, List.getElem_cons_zero])
        refine wpAnyJ_take (i := 18) (v := undef) rfl (by kernel_rfl) (by kernel_rfl) (by kernel_rfl) (by kernel_rfl) (fun _ _ _ h => h) (Or.inr (And.intro (by kernel_rfl) rfl)) hS0 ?r18_72
        (try simp only [Act.put, List.setIfInBounds_toArray, List.set_cons_zero, List.set_cons_succ, List.getElem_toArray, List.getElem_cons_succ, List.getElem_cons_zero])
        refine wpAnyJ_take (i := 19) (v := undef) rfl (by kernel_rfl) (by kernel_rfl) (by kernel_rfl) (by kernel_rfl) (fun _ _ _ h => h) (Or.inr (And.intro (by kernel_rfl) rfl)) hS0 ?r19_73
        (try simp only [Act.put, List.setIfInBounds_toArray, List.set_cons_zero, List.set_cons_succ, List.getElem_toArray, List.getElem_cons_succ, List.getElem_cons_zero])
        refine wpAnyJ_take (i := 20) (v := undef) rfl (by kernel_rfl) (by kernel_rfl) (by kernel_rfl) (by kernel_rfl) (fun _ _ _ h => h) (Or.inr (And.intro (by kernel_rfl) rfl)) hS0 ?r20_74
        (try simp only [Act.put, List.setIfInBounds_toArray, List.set_cons_zero, List.set_cons_succ, List.getElem_toArray, List.getElem_cons_succ, List.getElem_cons_zero])
        refine wpAnyJ_take (i := 21) (v := undef) rfl (by kernel_rfl) (by kernel_rfl) (by kernel_rfl) (by kernel_rfl) (fun _ _ _ h => h) (Or.inr (And.intro (by kernel_rfl) rfl)) hS0 ?r21_75
        (try simp only [Act.put, List.setIfInBounds_toArray, List.set_cons_zero, List.set_cons_succ, List.getElem_toArray, List.getElem_cons_succ, List.getElem_cons_zero])
        refine wpAnyJ_take (i := 22) (v := undef) rfl (by kernel_rfl) (by kernel_rfl) (by kernel_rfl) (by kernel_rfl) (fun _ _ _ h => h) (Or.inr (And.intro (by kernel_rfl) rfl)) hS0 ?r22_76
        (try simp only [Act.put, List.setIfInBounds_toArray, List.set_cons_zero, List.set_cons_succ, List.getElem_toArray, List.getElem_cons_succ, List.getElem_cons_zero])
        refine wpAnyJ_take (i := 23) (v := undef) rfl (by kernel_rfl) (by kernel_rfl) (by kernel_rfl) (by kernel_rfl) (fun _ _ _ h => h) (Or.inr (And.intro (by kernel_rfl) rfl)) hS0 ?r23_77
        (try simp only [Act.put, List.setIfInBounds_toArray, List.set_cons_zero, List.set_cons_succ, List.getElem_toArray, List.getElem_cons_succ, List.getElem_cons_zero])
        refine wpAnyJ_take (i := 24) (v := ?v24_78) rfl (by kernel_rfl) (by kernel_rfl) (by kernel_rfl) (by kernel_rfl) (fun _ _ _ h => h) (Or.inl (And.intro (by kernel_rfl) ?q24_78)) hS0 ?r24_78; (case q24_78 => (intro w hx; (try dsimp only); (try go_simp); (try with_reducible rfl)))
        (try simp only [Act.put, List.setIfInBounds_toArray, List.set_cons_zero, List.set_cons_succ, List.getElem_toArray, List.getElem_cons_succ, List.getElem_cons_zero])
        refine wpAnyJ_take (i := 25) (v := ?v25_79) rfl (by kernel_rfl) (by kernel_rfl) (by kernel_rfl) (by kernel_rfl) (fun _ _ _ h => h) (Or.inl (And.intro (by kernel_rfl) ?q25_79)) hS0 ?r25_79; (case q25_79 => (intro w hx; (try dsimp only); (try go_simp); (try with_reducible rfl)))
        (try simp only [Act.put, List.setIfInBounds_toArray, List.set_cons_zero, List.set_cons_succ, List.getElem_toArray, List.getElem_cons_succ, List.getElem_cons_zero])
        refine wpAnyJ_take (i := 26) (v := ?v26_80) rfl (by kernel_rfl) (by kernel_rfl) (by kernel_rfl) (by kernel_rfl) (fun _ _ _ h => h) (Or.inl (And.intro (by kernel_rfl) ?q26_80)) hS0 ?r26_80; (case q26_80 => (intro w hx; (try dsimp only); (try go_simp); (try with_reducible rfl)))
        (try simp only [Act.put, List.setIfInBounds_toArray, List.set_cons_zero, List.set_cons_succ, List.getElem_toArray, List.getElem_cons_succ, List.getElem_cons_zero])
        refine wpAnyJ_take (i := 27) (v := ?v27_81) rfl (by kernel_rfl) (by kernel_rfl) (by kernel_rfl) (by kernel_rfl) (fun _ _ _ h => h) (Or.inl (And.intro (by kernel_rfl) ?q27_81)) hS0 ?r27_81; (case q27_81 => (intro w hx; (try dsimp only); (try go_simp); (try with_reducible rfl)))
        (try simp only [Act.put, List.setIfInBounds_toArray, List.set_cons_zero, List.set_cons_succ, List.getElem_toArray, List.getElem_cons_succ, List.getElem_cons_zero])
        refine wpAnyJ_take (i := 28) (v := ?v28_82) rfl (by kernel_rfl) (by kernel_rfl) (by kernel_rfl) (by kernel_rfl) (fun _ _ _ h => h) (Or.inl (And.intro (by kernel_rfl) ?q28_82)) hS0 ?r28_82; (case q28_82 => (intro w hx; (try dsimp only); (try go_simp); (try with_reducible rfl)))
        (try simp only [Act.put, List.setIfInBounds_toArray, List.set_cons_zero, List.set_cons_succ, List.getElem_toArray, List.getElem_cons_succ, List.getElem_cons_zero])
        refine wpAnyJ_take (i := 29) (v := ?v29_83) rfl (by kernel_rfl) (by kernel_rfl) (by kernel_rfl) (by kernel_rfl) (fun _ _ _ h => h) (Or.inl (And.intro (by kernel_rfl) ?q29_83)) hS0 ?r29_83; (case q29_83 => (intro w hx; (try dsimp only); (try go_simp); (try with_reducible rfl)))
        (try simp only [Act.put, List.setIfInBounds_toArray, List.set_cons_zero, List.set_cons_succ, List.getElem_toArray, List.getElem_cons_succ, List.getElem_cons_zero])
        refine wpAnyJ_take (i := 30) (v := ?v30_84) rfl (by kernel_rfl) (by kernel_rfl) (by kernel_rfl) (by kernel_rfl) (fun _ _ _ h => h) (Or.inl (And.intro (by kernel_rfl) ?q30_84)) hS0 ?r30_84; (case q30_84 => (intro w hx; (try dsimp only); (try go_simp); (try with_reducible rfl)))
        (try simp only [Act.put, List.setIfInBounds_toArray, List.set_cons_zero, List.set_cons_succ, List.getElem_toArray, List.getElem_cons_succ, List.getElem_cons_zero])
        refine wpAnyJ_take (i := 31) (v := ?v31_85) rfl (by kernel_rfl) (by kernel_rfl) (by kernel_rfl) (by kernel_rfl) (fun _ _ _ h => h) (Or.inl (And.intro (by kernel_rfl) ?q31_85)) hS0 ?r31_85; (case q31_85 => (intro w hx; (try dsimp only); (try go_simp); (try with_reducible rfl)))
        (try simp only [Act.put, List.setIfInBounds_toArray, List.set_cons_zero, List.set_cons_succ, List.getElem_toArray, List.getElem_cons_succ, List.getElem_cons_zero])
        refine wpAnyJ_take (i := 32) (v := ?v32_86) rfl (by kernel_rfl) (by kernel_rfl) (by kernel_rfl) (by kernel_rfl) (fun _ _ _ h => h) (Or.inl (And.intro (by kernel_rfl) ?q32_86)) hS0 ?r32_86; (case q32_86 => (intro w hx; (try dsimp only); (try go_simp); (try with_reducible rfl)))
        (try simp only [Act.put, List.setIfInBounds_toArray, List.set_cons_zero, List.set_cons_succ, List.getElem_toArray, List.getElem_cons_succ, List.getElem_cons_zero])
        refine wpAnyJ_take (i := 33) (v := ?v33_87) rfl (by kernel_rfl) (by kernel_rfl) (by kernel_rfl) (by kernel_rfl) (fun _ _ _ h => h) (Or.inl (And.intro (by kernel_rfl) ?q33_87)) hS0 ?r33_87; (case q33_87 => (intro w hx; (try dsimp only); (try go_simp); (try with_reducible rfl)))
        (try simp only [Act.put, List.setIfInBounds_toArray, List.set_cons_zero, List.set_cons_succ, List.getElem_toArray, List.getElem_cons_succ, List.getElem_cons_zero])
        refine wpAnyJ_take (i := 34) (v := ?v34_88) rfl (by kernel_rfl) (by kernel_rfl) (by kernel_rfl) (by kernel_rfl) (fun _ _ _ h => h) (Or.inl (And.intro (by kernel_rfl) ?q34_88)) hS0 ?r34_88; (case q34_88 => (intro w hx; (try dsimp only); (try go_simp); (try with_reducible rfl)))
        (try simp only [Act.put, List.setIfInBounds_toArray, List.set_cons_zero, List.set_cons_succ, List.getElem_toArray, List.getElem_cons_succ, List.getElem_cons_zero])
        refine wpAnyJ_take (i := 35) (v := ?v35_89) rfl (by kernel_rfl) (by kernel_rfl) (by kernel_rfl) (by kernel_rfl) (fun _ _ _ h => h) (Or.inl (And.intro (by kernel_rfl) ?q35_89)) hS0 ?r35_89; (case q35_89 => (intro w hx; (try dsimp only); (try go_simp); (try with_reducible rfl)))
        (try simp only [Act.put, List.setIfInBounds_toArray, List.set_cons_zero, List.set_cons_succ, List.getElem_toArray, List.getElem_cons_succ, List.getElem_cons_zero])
        refine wpAnyJ_take (i := 36) (v := ?v36_90) rfl (by kernel_rfl) (by kernel_rfl) (by kernel_rfl) (by kernel_rfl) (fun _ _ _ h => h) (Or.inl (And.intro (by kernel_rfl) ?q36_90)) hS0 ?r36_90; (case q36_90 => (intro w hx; (try dsimp only); (try go_simp); (try with_reducible rfl)))
        (try simp only [Act.put, List.setIfInBounds_toArray, List.set_cons_zero, List.set_cons_succ, List.getElem_toArray, List.getElem_cons_succ, List.getElem_cons_zero])
        refine wpAnyJ_done (by kernel_rfl) ?_ _
      replace TWO := hide (TWO.out.below hS0)
      clear hS0 bb
      generalize w7.drew = w9 at *
      have RM9 := fun g (hg : (Value.slice A1 m c1).ownBlock = some g) => TWO.out.rm.row hg
      have V9 := fun g (hg : v1.ownBlock = some g) => TWO.out.ts.row.row hg
      have S9 := Cells.lt TWO.out.ts.tbl
      have SZ := hide (TWO.out.bw.size)
      go_upto_region 13 with (go_at_call 22; (refine (t_List _ B _ _ _ _ _ TWO.out.ts (by have := GL.out.len; omega)).mono ?_); rintro e w10 ⟨vn2, rfl, r10, b10, f10⟩)
      obtain ⟨A3, c3, rfl⟩ := slice_of r10
      rw [← ML.out] at r10 f10 ⊢
      replace TWO := hide (TWO.out.below b10)
      have R10 := hide r10; have F10 := hide f10; have B10 := hide (show ∀ g, (Value.slice A1 m c1).ownBlock = some g → g < w9.heap.size from RM9)
      have V10 := hide V9; have S10 := hide S9
      clear r10 f10 b10 RM9 V9 S9
      generalize w10 = w11 at *
      go_wp2_with fail
      go_loopg [13] m (fun gg sj wr => ∃ kk : Nat, kk ≤ m ∧ m - kk ≤ gg ∧ sj = .int .i64 kk ∧ Aside (Two B l v1 A1 c1 m w wr ∧ RR wr (.slice A3 m c3) (struck l kk)))
      case atStart => exact ⟨0, Nat.zero_le _, by omega, rfl, ⟨TWO.out, by rw [struck_zero]; exact R10.out⟩⟩
      case round =>
        obtain ⟨kk, hkk, hg, rfl, BW⟩ := hrel
        by_cases hlt : kk < m
        · have hltz : (kk : Int) < (m : Int) := by omega
          have hl : kk < l.length := by have := ML.out; omega
          obtain ⟨r, hr⟩ : ∃ r, l[kk]? = some r := ⟨_, List.getElem?_eq_getElem hl⟩
          have rm := BW.out.1.rm
          have rn := BW.out.2
          obtain ⟨g1, hg1⟩ := slice_some rm (by omega)
          obtain ⟨g2, hg2⟩ := slice_some rn (by rw [struck_length (by omega)]; omega)
          cases hg1; cases hg2
          have z0 : ∀ W', Below wr.heap.size wr W' → World.cell? W' ⟨g1, kk * 11, none⟩ = some (.int .i64 r.k) := fun W' hW => RR.slot (i := 0) (RR.below rm hW) hl hr (by omega) rfl
          have z1 : ∀ W', Below wr.heap.size wr W' → World.cell? W' ⟨g1, kk * 11 + 1, none⟩ = some (.int .u8 r.p) := fun W' hW => RR.slot (i := 1) (RR.below rm hW) hl hr (by omega) rfl
          have z2 : ∀ W', Below wr.heap.size wr W' → World.cell? W' ⟨g1, kk * 11 + 2, none⟩ = some (.int .u32 r.sa) := fun W' hW => RR.slot (i := 2) (RR.below rm hW) hl hr (by omega) rfl
          have z3 : ∀ W', Below wr.heap.size wr W' → World.cell? W' ⟨g1, kk * 11 + 3, none⟩ = some (.int .i64 r.sb) := fun W' hW => RR.slot (i := 3) (RR.below rm hW) hl hr (by omega) rfl
          have z4 : ∀ W', Below wr.heap.size wr W' → World.cell? W' ⟨g1, kk * 11 + 4, none⟩ = some (.int .u32 r.da) := fun W' hW => RR.slot (i := 4) (RR.below rm hW) hl hr (by omega) rfl
          have z5 : ∀ W', Below wr.heap.size wr W' → World.cell? W' ⟨g1, kk * 11 + 5, none⟩ = some (.int .i64 r.db) := fun W' hW => RR.slot (i := 5) (RR.below rm hW) hl hr (by omega) rfl
          have z6 : ∀ W', Below wr.heap.size wr W' → World.cell? W' ⟨g1, kk * 11 + 6, none⟩ = some (.int .u32 r.e) := fun W' hW => RR.slot (i := 6) (RR.below rm hW) hl hr (by omega) rfl
          have z7 : ∀ W', Below wr.heap.size wr W' → World.cell? W' ⟨g1, kk * 11 + 7, none⟩ = some (.int .u16 r.f) := fun W' hW => RR.slot (i := 7) (RR.below rm hW) hl hr (by omega) rfl
          have z8 : ∀ W', Below wr.heap.size wr W' → World.cell? W' ⟨g1, kk * 11 + 8, none⟩ = some (.int .u16 r.t) := fun W' hW => RR.slot (i := 8) (RR.below rm hW) hl hr (by omega) rfl
          have z9 : ∀ W', Below wr.heap.size wr W' → World.cell? W' ⟨g1, kk * 11 + 9, none⟩ = some (.int .u32 r.ia) := fun W' hW => RR.slot (i := 9) (RR.below rm hW) hl hr (by omega) rfl
          have z10 : ∀ W', Below wr.heap.size wr W' → World.cell? W' ⟨g1, kk * 11 + 10, none⟩ = some (.int .u16 r.ip) := fun W' hW => RR.slot (i := 10) (RR.below rm hW) hl hr (by omega) rfl
          have y0 : ∀ W', Below wr.heap.size wr W' → World.cell? W' ⟨g2, kk * 11, none⟩ = some (.int .i64 r.k) := fun W' hW => RR.slot (i := 0) (RR.below rn hW) (by rw [struck_length (by omega)]; exact hl) ((struck_at hl).trans hr) (by omega) rfl
          have y1 : ∀ W', Below wr.heap.size wr W' → World.cell? W' ⟨g2, kk * 11 + 1, none⟩ = some (.int .u8 r.p) := fun W' hW => RR.slot (i := 1) (RR.below rn hW) (by rw [struck_length (by omega)]; exact hl) ((struck_at hl).trans hr) (by omega) rfl
          have y2 : ∀ W', Below wr.heap.size wr W' → World.cell? W' ⟨g2, kk * 11 + 2, none⟩ = some (.int .u32 r.sa) := fun W' hW => RR.slot (i := 2) (RR.below rn hW) (by rw [struck_length (by omega)]; exact hl) ((struck_at hl).trans hr) (by omega) rfl
          have y3 : ∀ W', Below wr.heap.size wr W' → World.cell? W' ⟨g2, kk * 11 + 3, none⟩ = some (.int .i64 r.sb) := fun W' hW => RR.slot (i := 3) (RR.below rn hW) (by rw [struck_length (by omega)]; exact hl) ((struck_at hl).trans hr) (by omega) rfl
          have y4 : ∀ W', Below wr.heap.size wr W' → World.cell? W' ⟨g2, kk * 11 + 4, none⟩ = some (.int .u32 r.da) := fun W' hW => RR.slot (i := 4) (RR.below rn hW) (by rw [struck_length (by omega)]; exact hl) ((struck_at hl).trans hr) (by omega) rfl
          have y5 : ∀ W', Below wr.heap.size wr W' → World.cell? W' ⟨g2, kk * 11 + 5, none⟩ = some (.int .i64 r.db) := fun W' hW => RR.slot (i := 5) (RR.below rn hW) (by rw [struck_length (by omega)]; exact hl) ((struck_at hl).trans hr) (by omega) rfl
          have y6 : ∀ W', Below wr.heap.size wr W' → World.cell? W' ⟨g2, kk * 11 + 6, none⟩ = some (.int .u32 r.e) := fun W' hW => RR.slot (i := 6) (RR.below rn hW) (by rw [struck_length (by omega)]; exact hl) ((struck_at hl).trans hr) (by omega) rfl
          have y7 : ∀ W', Below wr.heap.size wr W' → World.cell? W' ⟨g2, kk * 11 + 7, none⟩ = some (.int .u16 r.f) := fun W' hW => RR.slot (i := 7) (RR.below rn hW) (by rw [struck_length (by omega)]; exact hl) ((struck_at hl).trans hr) (by omega) rfl
          have y8 : ∀ W', Below wr.heap.size wr W' → World.cell? W' ⟨g2, kk * 11 + 8, none⟩ = some (.int .u16 r.t) := fun W' hW => RR.slot (i := 8) (RR.below rn hW) (by rw [struck_length (by omega)]; exact hl) ((struck_at hl).trans hr) (by omega) rfl
          have y9 : ∀ W', Below wr.heap.size wr W' → World.cell? W' ⟨g2, kk * 11 + 9, none⟩ = some (.int .u32 r.ia) := fun W' hW => RR.slot (i := 9) (RR.below rn hW) (by rw [struck_length (by omega)]; exact hl) ((struck_at hl).trans hr) (by omega) rfl
          have y10 : ∀ W', Below wr.heap.size wr W' → World.cell? W' ⟨g2, kk * 11 + 10, none⟩ = some (.int .u16 r.ip) := fun W' hW => RR.slot (i := 10) (RR.below rn hW) (by rw [struck_length (by omega)]; exact hl) ((struck_at hl).trans hr) (by omega) rfl
          have bb : Below wr.heap.size wr wr := Below.refl _ _
          have fz : ∀ W' i, Below wr.heap.size wr W' → World.frozen? W' ⟨g2, i, none⟩ = false := fun W' i h => RR.free (RR.below rn h) (by intro e; have h := congrArg List.length e; rw [struck_length (by omega)] at h; have h' : l.length = 0 := h; omega) i
          have RMH := hide rm; have RNH := hide rn; have HRR := hide hr; have BW' := hide BW
          clear rm rn hr BW
          go_upto_region 18 with fail
          focus
            refine wp_region_J [] (fun W => Below wr.heap.size wr W) (by kernel_rfl) (bb.drew) (fun hS0 => ?_)
            refine wpAnyJ_take (i := 0) (v := ?v0_91) rfl (by kernel_rfl) (by kernel_rfl) (by kernel_rfl) (by kernel_rfl) (fun _ _ _ h => h) (Or.inl (And.intro (by kernel_rfl) ?q0_91)) hS0 ?r0_91; (case q0_91 => (intro w hx; (try dsimp only); (try go_simp); (try with_reducible rfl)))
            (try simp only [Act.put, List.setIfInBounds_toArray, List.set_cons_zero, List.set_cons_succ, List.getElem_toArray, List.getElem_cons_succ, List.getElem_cons_zero])
            refine wpAnyJ_take (i := 1) (v := ?v1_92) rfl (by kernel_rfl) (by kernel_rfl) (by kernel_rfl) (by kernel_rfl) (fun _ _ _ h => h) (Or.inl (And.intro (by kernel_rfl) ?q1_92)) hS0 ?r1_92; (case q1_92 => (intro w hx; (try dsimp only); (try go_simp); (try with_reducible rfl)))
            (try simp only [Act.put, List.setIfInBounds_toArray, List.set_cons_zero, List.set_cons_succ, List.getElem_toArray, List.getElem_cons_succ, List.getElem_cons_zero])
            refine wpAnyJ_take (i := 2) (v := ?v2_93) rfl (by kernel_rfl) (by kernel_rfl) (by kernel_rfl) (by kernel_rfl) (fun _ _ _ h => h) (Or.inl (And.intro (by kernel_rfl) ?q2_93)) hS0 ?r2_93; (case q2_93 => (intro w hx; (try dsimp only); (try go_simp); (try with_reducible rfl)))
            (try simp only [Act.put, List.setIfInBounds_toArray, List.set_cons_zero, List.set_cons_succ, List.getElem_toArray, List.getElem_cons_succ, List.getElem_cons_zero])
            refine wpAnyJ_take (i := 3) (v := ?v3_94) rfl (by kernel_rfl) (by kernel_rfl) (by kernel_rfl) (by kernel_rfl) (fun _ _ _ h => h) (Or.inl (And.intro (by kernel_rfl) ?q3_94)) hS0 ?r3_94; (case q3_94 => (intro w hx; (try dsimp only); (try go_simp); (try with_reducible rfl)))
            (try simp only [Act.put, List.setIfInBounds_toArray, List.set_cons_zero, List.set_cons_succ, List.getElem_toArray, List.getElem_cons_succ, List.getElem_cons_zero])
            refine wpAnyJ_take (i := 4) (v := ?v4_95) rfl (by kernel_rfl) (by kernel_rfl) (by kernel_rfl) (by kernel_rfl) (fun _ _ _ h => h) (Or.inl (And.intro (by kernel_rfl) ?q4_95)) hS0 ?r4_95; (case q4_95 => (intro w hx; (try dsimp only); (try go_simp); (try with_reducible rfl)))
            (try simp only [Act.put, List.setIfInBounds_toArray, List.set_cons_zero, List.set_cons_succ, List.getElem_toArray, List.getElem_cons_succ, List.getElem_cons_zero])
            refine wpAnyJ_take (i := 5) (v := ?v5_96) rfl (by kernel_rfl) (by kernel_rfl) (by kernel_rfl) (by kernel_rfl) (fun _ _ _ h => h) (Or.inl (And.intro (by kernel_rfl) ?q5_96)) hS0 ?r5_96; (case q5_96 => (intro w hx; (try dsimp only); (try go_simp); (try with_reducible rfl)))
            (try simp only [Act.put, List.setIfInBounds_toArray, List.set_cons_zero, List.set_cons_succ, List.getElem_toArray, List.getElem_cons_succ, List.getElem_cons_zero])
            refine wpAnyJ_take (i := 6) (v := ?v6_97) rfl (by kernel_rfl) (by kernel_rfl) (by kernel_rfl) (by kernel_rfl) (fun _ _ _ h => h) (Or.inl (And.intro (by kernel_rfl) ?q6_97)) hS0 ?r6_97; (case q6_97 => (intro w hx; (try dsimp only); (try go_simp); (try with_reducible rfl)))
            (try simp only [Act.put, List.setIfInBounds_toArray, List.set_cons_zero, List.set_cons_succ, List.getElem_toArray, List.getElem_cons_succ, List.getElem_cons_zero])
            refine wpAnyJ_take (i := 7) (v := ?v7_98) rfl (by kernel_rfl) (by kernel_rfl) (by kernel_rfl) (by kernel_rfl) (fun _ _ _ h => h) (Or.inl (And.intro (by kernel_rfl) ?q7_98)) hS0 ?r7_98; (case q7_98 => (intro w hx; (try dsimp only); (try go_simp); (try with_reducible rfl)))
            (try simp only [Act.put, List.setIfInBounds_toArray, List.set_cons_zero, List.set_cons_succ, List.getElem_toArray, List.getElem_cons_succ, List.getElem_cons_zero])
            refine wpAnyJ_take (i := 8) (v := ?v8_99) rfl (by kernel_rfl) (by kernel_rfl) (by kernel_rfl) (by kernel_rfl) (fun _ _ _ h => h) (Or.inl (And.intro (by kernel_rfl) ?q8_99)) hS0 ?r8_99; (case q8_99 => (intro w hx; (try dsimp only); (try go_simp); (try with_reducible rfl)))
            (try simp only [Act.put, List.setIfInBounds_toArray, List.set_cons_zero, List.set_cons_succ, List.getElem_toArray, List.getElem_cons_succ, List.getElem_cons_zero])
            refine wpAnyJ_done (by kernel_rfl) ?_ _
          go_wp2_with fail
          go_roundg (m - (kk + 1))
          case measure => omega
          case rel =>
            have k1 := BW'.out.out.1
            have k2 := RNH.out
            have hga := F10.out g2 rfl
            have hs := RR.set k2 kk (by rw [struck_length (by omega)]; exact hl) zeroR
            rw [struck_set hl] at hs
            have ht := Two.set k1 g2 (kk * 11) zeroR.cells.toList (by have := S10.out; omega) (fun e => by have h7 : g2 < w9.heap.size := V10.out g2 e; omega) (fun e => by have h7 : g2 < w9.heap.size := B10.out g2 e; omega) (by have := SZ.out; omega)
            exact ⟨kk + 1, by omega, by omega, by go_num, (show Aside _ from ⟨Two.below ht (Below.refl _ _).drew, RR.below hs (Below.refl _ _).drew⟩)⟩
        · have hltz : ¬ (kk : Int) < (m : Int) := by omega
          have hmk : m = kk := by omega
          subst hmk
          have TW := hide BW.out.1
          clear BW
          go_upto_region 22 with (go_at_call 22; (refine (t_List _ B _ _ _ _ _ TW.out.ts (by have := GL.out.len; omega)).mono ?_); rintro e w12 ⟨vn3, rfl, r12, b12, f12⟩)
          obtain ⟨A4, c4, rfl⟩ := slice_of r12
          rw [← ML.out] at r12 ⊢
          replace TW := hide (TW.out.below b12)
          have R12 := hide r12
          clear r12 f12 b12 R10 F10 B10 V10 S10 SZ
          generalize w12 = w13 at *
          go_wp2_with fail
          go_loopg [14] m (fun gg sj wr => ∃ kk : Nat, kk ≤ m ∧ m - kk ≤ gg ∧ sj = .int .i64 kk ∧ Aside (Two B l v1 A1 c1 m w wr ∧ RR wr (.slice A4 m c4) l))
          case atStart => exact ⟨0, Nat.zero_le _, by omega, rfl, ⟨TW.out, R12.out⟩⟩
          case round =>
            obtain ⟨kk, hkk, hg, rfl, BW⟩ := hrel
            by_cases hlt : kk < m
            · have hltz : (kk : Int) < (m : Int) := by omega
              have hl : kk < l.length := by have := ML.out; omega
              obtain ⟨r, hr⟩ : ∃ r, l[kk]? = some r := ⟨_, List.getElem?_eq_getElem hl⟩
              have rm := BW.out.1.rm
              have rn := BW.out.2
              obtain ⟨g1, hg1⟩ := slice_some rm (by omega)
              obtain ⟨g2, hg2⟩ := slice_some rn (by omega)
              cases hg1; cases hg2
              have z0 : ∀ W', Below wr.heap.size wr W' → World.cell? W' ⟨g1, kk * 11, none⟩ = some (.int .i64 r.k) := fun W' hW => RR.slot (i := 0) (RR.below rm hW) hl hr (by omega) rfl
              have z1 : ∀ W', Below wr.heap.size wr W' → World.cell? W' ⟨g1, kk * 11 + 1, none⟩ = some (.int .u8 r.p) := fun W' hW => RR.slot (i := 1) (RR.below rm hW) hl hr (by omega) rfl
              have z2 : ∀ W', Below wr.heap.size wr W' → World.cell? W' ⟨g1, kk * 11 + 2, none⟩ = some (.int .u32 r.sa) := fun W' hW => RR.slot (i := 2) (RR.below rm hW) hl hr (by omega) rfl
              have z3 : ∀ W', Below wr.heap.size wr W' → World.cell? W' ⟨g1, kk * 11 + 3, none⟩ = some (.int .i64 r.sb) := fun W' hW => RR.slot (i := 3) (RR.below rm hW) hl hr (by omega) rfl
              have z4 : ∀ W', Below wr.heap.size wr W' → World.cell? W' ⟨g1, kk * 11 + 4, none⟩ = some (.int .u32 r.da) := fun W' hW => RR.slot (i := 4) (RR.below rm hW) hl hr (by omega) rfl
              have z5 : ∀ W', Below wr.heap.size wr W' → World.cell? W' ⟨g1, kk * 11 + 5, none⟩ = some (.int .i64 r.db) := fun W' hW => RR.slot (i := 5) (RR.below rm hW) hl hr (by omega) rfl
              have z6 : ∀ W', Below wr.heap.size wr W' → World.cell? W' ⟨g1, kk * 11 + 6, none⟩ = some (.int .u32 r.e) := fun W' hW => RR.slot (i := 6) (RR.below rm hW) hl hr (by omega) rfl
              have z7 : ∀ W', Below wr.heap.size wr W' → World.cell? W' ⟨g1, kk * 11 + 7, none⟩ = some (.int .u16 r.f) := fun W' hW => RR.slot (i := 7) (RR.below rm hW) hl hr (by omega) rfl
              have z8 : ∀ W', Below wr.heap.size wr W' → World.cell? W' ⟨g1, kk * 11 + 8, none⟩ = some (.int .u16 r.t) := fun W' hW => RR.slot (i := 8) (RR.below rm hW) hl hr (by omega) rfl
              have z9 : ∀ W', Below wr.heap.size wr W' → World.cell? W' ⟨g1, kk * 11 + 9, none⟩ = some (.int .u32 r.ia) := fun W' hW => RR.slot (i := 9) (RR.below rm hW) hl hr (by omega) rfl
              have z10 : ∀ W', Below wr.heap.size wr W' → World.cell? W' ⟨g1, kk * 11 + 10, none⟩ = some (.int .u16 r.ip) := fun W' hW => RR.slot (i := 10) (RR.below rm hW) hl hr (by omega) rfl
              have y0 : ∀ W', Below wr.heap.size wr W' → World.cell? W' ⟨g2, kk * 11, none⟩ = some (.int .i64 r.k) := fun W' hW => RR.slot (i := 0) (RR.below rn hW) hl hr (by omega) rfl
              have y1 : ∀ W', Below wr.heap.size wr W' → World.cell? W' ⟨g2, kk * 11 + 1, none⟩ = some (.int .u8 r.p) := fun W' hW => RR.slot (i := 1) (RR.below rn hW) hl hr (by omega) rfl
              have y2 : ∀ W', Below wr.heap.size wr W' → World.cell? W' ⟨g2, kk * 11 + 2, none⟩ = some (.int .u32 r.sa) := fun W' hW => RR.slot (i := 2) (RR.below rn hW) hl hr (by omega) rfl
              have y3 : ∀ W', Below wr.heap.size wr W' → World.cell? W' ⟨g2, kk * 11 + 3, none⟩ = some (.int .i64 r.sb) := fun W' hW => RR.slot (i := 3) (RR.below rn hW) hl hr (by omega) rfl
              have y4 : ∀ W', Below wr.heap.size wr W' → World.cell? W' ⟨g2, kk * 11 + 4, none⟩ = some (.int .u32 r.da) := fun W' hW => RR.slot (i := 4) (RR.below rn hW) hl hr (by omega) rfl
              have y5 : ∀ W', Below wr.heap.size wr W' → World.cell? W' ⟨g2, kk * 11 + 5, none⟩ = some (.int .i64 r.db) := fun W' hW => RR.slot (i := 5) (RR.below rn hW) hl hr (by omega) rfl
              have y6 : ∀ W', Below wr.heap.size wr W' → World.cell? W' ⟨g2, kk * 11 + 6, none⟩ = some (.int .u32 r.e) := fun W' hW => RR.slot (i := 6) (RR.below rn hW) hl hr (by omega) rfl
              have y7 : ∀ W', Below wr.heap.size wr W' → World.cell? W' ⟨g2, kk * 11 + 7, none⟩ = some (.int .u16 r.f) := fun W' hW => RR.slot (i := 7) (RR.below rn hW) hl hr (by omega) rfl
              have y8 : ∀ W', Below wr.heap.size wr W' → World.cell? W' ⟨g2, kk * 11 + 8, none⟩ = some (.int .u16 r.t) := fun W' hW => RR.slot (i := 8) (RR.below rn hW) hl hr (by omega) rfl
              have y9 : ∀ W', Below wr.heap.size wr W' → World.cell? W' ⟨g2, kk * 11 + 9, none⟩ = some (.int .u32 r.ia) := fun W' hW => RR.slot (i := 9) (RR.below rn hW) hl hr (by omega) rfl
              have y10 : ∀ W', Below wr.heap.size wr W' → World.cell? W' ⟨g2, kk * 11 + 10, none⟩ = some (.int .u16 r.ip) := fun W' hW => RR.slot (i := 10) (RR.below rn hW) hl hr (by omega) rfl
              have bb : Below wr.heap.size wr wr := Below.refl _ _
              have RMH := hide rm; have RNH := hide rn; have HRR := hide hr; have BW' := hide BW
              clear rm rn hr BW
              go_upto_region 25 with fail
              focus
                refine wp_region_J [] (fun W => Below wr.heap.size wr W) (by kernel_rfl) (bb.drew) (fun hS0 => ?_)
                refine wpAnyJ_take (i := 0) (v := ?v0_100) rfl (by kernel_rfl) (by kernel_rfl) (by kernel_rfl) (by kernel_rfl) (fun _ _ _ h => h) (Or.inl (And.intro (by kernel_rfl) ?q0_100)) hS0 ?r0_100; (case q0_100 => (intro w hx; (try dsimp only); (try go_simp); (try with_reducible rfl)))
                (try simp only [Act.put, List.setIfInBounds_toArray, List.set_cons_zero, List.set_cons_succ, List.getElem_toArray, List.getElem_cons_succ, List.getElem_cons_zero])
                refine wpAnyJ_take (i := 1) (v := ?v1_101) rfl (by kernel_rfl) (by kernel_rfl) (by kernel_rfl) (by kernel_rfl) (fun _ _ _ h => h) (Or.inl (And.intro (by kernel_rfl) ?q1_101)) hS0 ?r1_101; (case q1_101 => (intro w hx; (try dsimp only); (try go_simp); (try with_reducible rfl)))
                (try simp only [Act.put, List.setIfInBounds_toArray, List.set_cons_zero, List.set_cons_succ, List.getElem_toArray, List.getElem_cons_succ, List.getElem_cons_zero])
                refine wpAnyJ_take (i := 2) (v := ?v2_102) rfl (by kernel_rfl) (by kernel_rfl) (by kernel_rfl) (by kernel_rfl) (fun _ _ _ h => h) (Or.inl (And.intro (by kernel_rfl) ?q2_102)) hS0 ?r2_102; (case q2_102 => (intro w hx; (try dsimp only); (try go_simp); (try with_reducible rfl)))
                (try simp only [Act.put, List.setIfInBounds_toArray, List.set_cons_zero, List.set_cons_succ, List.getElem_toArray, List.getElem_cons_succ, List.getElem_cons_zero])
                refine wpAnyJ_take (i := 3) (v := ?v3_103) rfl (by kernel_rfl) (by kernel_rfl) (by kernel_rfl) (by kernel_rfl) (fun _ _ _ h => h) (Or.inl (And.intro (by kernel_rfl) ?q3_103)) hS0 ?r3_103; (case q3_103 => (intro w hx; (try dsimp only); (try go_simp); (try with_reducible rfl)))
                (try simp only [Act.put, List.setIfInBounds_toArray, List.set_cons_zero, List.set_cons_succ, List.getElem_toArray, List.getElem_cons_succ, List.getElem_cons_zero])
                refine wpAnyJ_take (i := 4) (v := ?v4_104) rfl (by kernel_rfl) (by kernel_rfl) (by kernel_rfl) (by kernel_rfl) (fun _ _ _ h => h) (Or.inl (And.intro (by kernel_rfl) ?q4_104)) hS0 ?r4_104; (case q4_104 => (intro w hx; (try dsimp only); (try go_simp); (try with_reducible rfl)))
                (try simp only [Act.put, List.setIfInBounds_toArray, List.set_cons_zero, List.set_cons_succ, List.getElem_toArray, List.getElem_cons_succ, List.getElem_cons_zero])
                refine wpAnyJ_take (i := 5) (v := ?v5_105) rfl (by kernel_rfl) (by kernel_rfl) (by kernel_rfl) (by kernel_rfl) (fun _ _ _ h => h) (Or.inl (And.intro (by kernel_rfl) ?q5_105)) hS0 ?r5_105; (case q5_105 => (intro w hx; (try dsimp only); (try go_simp); (try with_reducible rfl)))
                (try simp only [Act.put, List.setIfInBounds_toArray, List.set_cons_zero, List.set_cons_succ, List.getElem_toArray, List.getElem_cons_succ, List.getElem_cons_zero])
                refine wpAnyJ_take (i := 6) (v := ?v6_106) rfl (by kernel_rfl) (by kernel_rfl) (by kernel_rfl) (by kernel_rfl) (fun _ _ _ h => h) (Or.inl (And.intro (by kernel_rfl) ?q6_106)) hS0 ?r6_106; (case q6_106 => (intro w hx; (try dsimp only); (try go_simp); (try with_reducible rfl)))
                (try simp only [Act.put, List.setIfInBounds_toArray, List.set_cons_zero, List.set_cons_succ, List.getElem_toArray, List.getElem_cons_succ, List.getElem_cons_zero])
                refine wpAnyJ_take (i := 7) (v := ?v7_107) rfl (by kernel_rfl) (by kernel_rfl) (by kernel_rfl) (by kernel_rfl) (fun _ _ _ h => h) (Or.inl (And.intro (by kernel_rfl) ?q7_107)) hS0 ?r7_107; (case q7_107 => (intro w hx; (try dsimp only); (try go_simp); (try with_reducible rfl)))
                (try simp only [Act.put, List.setIfInBounds_toArray, List.set_cons_zero, List.set_cons_succ, List.getElem_toArray, List.getElem_cons_succ, List.getElem_cons_zero])
                refine wpAnyJ_take (i := 8) (v := ?v8_108) rfl (by kernel_rfl) (by kernel_rfl) (by kernel_rfl) (by kernel_rfl) (fun _ _ _ h => h) (Or.inl (And.intro (by kernel_rfl) ?q8_108)) hS0 ?r8_108; (case q8_108 => (intro w hx; (try dsimp only); (try go_simp); (try with_reducible rfl)))
                (try simp only [Act.put, List.setIfInBounds_toArray, List.set_cons_zero, List.set_cons_succ, List.getElem_toArray, List.getElem_cons_succ, List.getElem_cons_zero])
                refine wpAnyJ_done (by kernel_rfl) ?_ _
              go_wp2_with fail
              go_roundg (m - (kk + 1))
              case measure => omega
              case rel =>
                exact ⟨kk + 1, by omega, by omega, by go_num, (show Aside _ from ⟨Two.below BW'.out.out.1 hS0, RR.below BW'.out.out.2 hS0⟩)⟩
            · have hltz : ¬ (kk : Int) < (m : Int) := by omega
              have hmk : m = kk := by omega
              subst hmk
              have TX := hide BW.out.1.bw
              clear BW
              go_wp2_with (go_at_call 11; (with_reducible refine (CR.out _).mono ?_); rintro e w14 ⟨rfl, b14⟩)
              go_ret
              exact ⟨rfl, bstep TX.out b14⟩
    · have hLl : l = L' := (HNO.out (by decide)).symm
      subst hLl
      go_upto_region 10 with (go_at_call 22; (refine (t_List _ B _ _ _ _ _ TS5.out (by have := GL.out.len; omega)).mono ?_); rintro e w7 ⟨vn, rfl, r7, b7, f7⟩)
      have two : Two B l v1 A1 c1 m w w7 := ⟨TS5.out.below b7, RM5.out.below b7, bstep LW.out b7⟩
      obtain ⟨A2, c2, rfl⟩ := slice_of r7
      have bb : Below w7.heap.size w7 w7 := Below.refl _ _
      have TWO := hide two
      clear two r7 b7 f7 TS5 RM5 D5 OW F3' HBw LW
      focus
        refine wp_region_J [] (fun W => Below w7.heap.size w7 W) (by kernel_rfl) (bb.drew) (fun hS0 => ?_)
        refine wpAnyJ_take (i := 0) (v := ?v0_109) rfl (by kernel_rfl) (by kernel_rfl) (by kernel_rfl) (by kernel_rfl) (fun _ _ _ h => h) (Or.inl (And.intro (by kernel_rfl) ?q0_109)) hS0 ?r0_109; (case q0_109 => (intro w hx; (try dsimp only); (try go_simp); (try with_reducible rfl)))
        (try simp only [Act.put, List.setIfInBounds_toArray, List.set_cons_zero, List.set_cons_succ, List.getElem_toArray, List.getElem_cons_succ, List.getElem_cons_zero])
        refine wpAnyJ_take (i := 1) (v := ?v1_110) rfl (by kernel_rfl) (by kernel_rfl) (by kernel_rfl) (by kernel_rfl) (fun _ _ _ h => h) (Or.inl (And.intro (by kernel_rfl) ?q1_110)) hS0 ?r1_110; (case q1_110 => (intro w hx; (try dsimp only); (try go_simp); (try with_reducible rfl)))
        (try simp only [Act.put, List.setIfInBounds_toArray, List.set_cons_zero, List.set_cons_succ, List.getElem_toArray, List.getElem_cons_succ, List.getElem_cons_zero])
        refine wpAnyJ_take (i := 2) (v := ?v2_111) rfl (by kernel_rfl) (by kernel_rfl) (by kernel_rfl) (by kernel_rfl) (fun _ _ _ h => h) (Or.inl (And.intro (by kernel_rfl) ?q2_111)) hS0 ?r2_111; (case q2_111 => (intro w hx; (try dsimp only); (try go_simp); (try with_reducible rfl)))
        (try simp only [Act.put, List.setIfInBounds_toArray, List.set_cons_zero, List.set_cons_succ, List.getElem_toArray, List.getElem_cons_succ, List.getElem_cons_zero])
        refine wpAnyJ_take (i := 3) (v := undef) rfl (by kernel_rfl) (by kernel_rfl) (by kernel_rfl) (by kernel_rfl) (fun _ _ _ h => h) (Or.inr (And.intro (by kernel_rfl) rfl)) hS0 ?r3_112
        (try simp only [Act.put, List.setIfInBounds_toArray, List.set_cons_zero, List.set_cons_succ, List.getElem_toArray, List.getElem_cons_succ, List.getElem_cons_zero])
        refine wpAnyJ_take (i := 4) (v := undef) rfl (by kernel_rfl) (by kernel_rfl) (by kernel_rfl) (by kernel_rfl) (fun _ _ _ h => h) (Or.inr (And.intro (by kernel_rfl) rfl)) hS0 ?r4_113
        (try simp only [Act.put, List.setIfInBounds_toArray, List.set_cons_zero, List.set_cons_succ, List.getElem_toArray, List.getElem_cons_succ, List.getElem_cons_zero])
        refine wpAnyJ_take (i := 5) (v := undef) rfl (by kernel_rfl) (by kernel_rfl) (by kernel_rfl) (by kernel_rfl) (fun _ _ _ h => h) (Or.inr (And.intro (by kernel_rfl) rfl)) hS0 ?r5_114
        (try simp only [Act.put, List.setIfInBounds_toArray, List.set_cons_zero, List.set_cons_succ, List.getElem_toArray, List.getElem_cons_succ, List.getElem_cons_zero])
        refine wpAnyJ_take (i := 6) (v := undef) rfl (by kernel_rfl) (by kernel_rfl) (by kernel_rfl) (by kernel_rfl) (fun _ _ _ h => h) (Or.inr (And.intro (by kernel_rfl) rfl)) hS0 ?r6_115
        (try simp only [Act.put, List.setIfInBounds_toArray, List.set_cons_zero, List.set_cons_succ, List.getElem_toArray, List.getElem_cons_succ, List.getElem_cons_zero])
        refine wpAnyJ_take (i := 7) (v := undef) rfl (by kernel_rfl) (by kernel_rfl) (by kernel_rfl) (by kernel_rfl) (fun _ _ _ h => h) (Or.inr (And.intro (by kernel_rfl) rfl)) hS0 ?r7_116
        (try simp only [Act.put, List.setIfInBounds_toArray, List.set_cons_zero, List.set_cons_succ, List.getElem_toArray, List.getElem_cons_succ, List.getElem_cons_zero])
        refine wpAnyJ_take (i := 8) (v := undef) rfl (by kernel_rfl) (by kernel_rfl) (by kernel_rfl) (by kernel_rfl) (fun _ _ _ h => h) (Or.inr (And.intro (by kernel_rfl) rfl)) hS0 ?r8_117
        (try simp only [Act.put, List.setIfInBounds_toArray, List.set_cons_zero, List.set_cons_succ, List.getElem_toArray, List.getElem_cons_succ, List.getElem_cons_zero])
        refine wpAnyJ_take (i := 9) (v := undef) rfl (by kernel_rfl) (by kernel_rfl) (by kernel_rfl) (by kernel_rfl) (fun _ _ _ h => h) (Or.inr (And.intro (by kernel_rfl) rfl)) hS0 ?r9_118
        (try simp only [Act.put, List.setIfInBounds_toArray, List.set_cons_zero, List.set_cons_succ, List.getElem_toArray, List.getElem_cons_succ, List.getElem_cons_zero])
        refine wpAnyJ_take (i := 10) (v := undef) rfl (by kernel_rfl) (by kernel_rfl) (by kernel_rfl) (by kernel_rfl) (fun _ _ _ h => h) (Or.inr (And.intro (by kernel_rfl) rfl)) hS0 ?r10_119
        (try simp only [Act.put, List.setIfInBounds_toArray, List.set_cons_zero, List.set_cons_succ, List.getElem_toArray, List.getElem_cons_succ, List.getElem_cons_zero])
        refine wpAnyJ_take (i := 11) (v := undef) rfl (by kernel_rfl) (by kernel_rfl) (by kernel_rfl) (by kernel_rfl) (fun _ _ _ h => h) (Or.inr (And.intro (by kernel_rfl) rfl)) hS0 ?r11_120
        (try simp only [Act.put, List.setIfInBounds_toArray, List.set_cons_zero, List.set_cons_succ, List.getElem_toArray, List.getElem_cons_succ, List.getElem_cons_zero])
        refine wpAnyJ_take (i := 12) (v := undef) rfl (by kernel_rfl) (by kernel_rfl) (by kernel_rfl) (by kernel_rfl) (fun _ _ _ h => h) (Or.inr (And.intro (by kernel_rfl) rfl)) hS0 ?r12_121
        (try simp only [Act.put, List.setIfInBounds_toArray, List.set_cons_zero, List.set_cons_succ, List.getElem_toArray, List.getElem_cons_succ, List.getElem_cons_zero])
        refine wpAnyJ_take (i := 13) (v := undef) rfl (by kernel_rfl) (by kernel_rfl) (by kernel_rfl) (by kernel_rfl) (fun _ _ _ h => h) (Or.inr (And.intro (by kernel_rfl) rfl)) hS0 ?r13_122
        (try simp only [Act.put, List.setIfInBounds_toArray, List.set_cons_zero, List.set_cons_succ, List.getElem_toArray, List.getElem_cons_succ, List.getElem_cons_zero])
        refine wpAnyJ_take (i := 14) (v := undef) rfl (by kernel_rfl) (by kernel_rfl) (by kernel_rfl) (by kernel_rfl) (fun _ _ _ h => h) (Or.inr (And.intro (by kernel_rfl) rfl)) hS0 ?r14_123
        (try simp only [Act.put, List.setIfInBounds_toArray, List.set_cons_zero, List.set_cons_succ, List.getElem_toArray, List.getElem_cons_succ, List.getElem_cons_zero])
        refine wpAnyJ_take (i := 15) (v := undef) rfl (by kernel_rfl) (by kernel_rfl) (by kernel_rfl) (by kernel_rfl) (fun _ _ _ h => h) (Or.inr (And.intro (by kernel_rfl) rfl)) hS0 ?r15_124
        (try simp only [Act.put, List.setIfInBounds_toArray, List.set_cons_zero, List.set_cons_succ, List.getElem_toArray, List.getElem_cons_succ, List.getElem_cons_zero])
        refine wpAnyJ_take (i := 16) (v := undef) rfl (by kernel_rfl) (by kernel_rfl) (by kernel_rfl) (by kernel_rfl) (fun _ _ _ h => h) (Or.inr (And.intro (by kernel_rfl) rfl)) hS0 ?r16_125
        (try simp only [Act.put, List.setIfInBounds_toArray, List.set_cons_zero, List.set_cons_succ, List.getElem_toArray, List.getElem_cons_succ, List.getElem_cons_zero])
        refine wpAnyJ_take (i := 17) (v := undef) rfl (by kernel_rfl) (by kernel_rfl) (by kernel_rfl) (by kernel_rfl) (fun _ _ _ h => h) (Or.inr (And.intro (by kernel_rfl) rfl)) hS0 ?r17_126
        (try simp only [Act.put, List.setIfInBounds_toArray, List.set_cons_zero, List.set_cons_succ, List.getElem_toArray, List.getElem_cons_succ, List.getElem_cons_zero])
        refine wpAnyJ_take (i := 18) (v := undef) rfl (by kernel_rfl) (by kernel_rfl) (by kernel_rfl) (by kernel_rfl) (fun _ _ _ h => h) (Or.inr (And.intro (by kernel_rfl) rfl)) hS0 ?r18_127
        (try simp only [Act.put, List.setIfInBounds_toArray, List.set_cons_zero, List.set_cons_succ, List.getElem_toArray, List.getElem_cons_succ, List.getElem_cons_zero])
        refine wpAnyJ_take (i := 19) (v := undef) rfl (by kernel_rfl) (by kernel_rfl) (by kernel_rfl) (by kernel_rfl) (fun _ _ _ h => h) (Or.inr (And.intro (by kernel_rfl) rfl)) hS0 ?r19_128
        (try simp only [Act.put, List.setIfInBounds_toArray, List.set_cons_zero, List.set_cons_succ, List.getElem_toArray, List.getElem_cons_succ, List.getElem_cons_zero])
        refine wpAnyJ_take (i := 20) (v := undef) rfl (by kernel_rfl) (by kernel_rfl) (by kernel_rfl) (by kernel_rfl) (fun _ _ _ h => h) (Or.inr (And.intro (by kernel_rfl) rfl)) hS0 ?r20_129
        (try simp only [Act.put, List.setIfInBounds_toArray, List.set_cons_zero, List.set_cons_succ, List.getElem_toArray, List.getElem_cons_succ, List.getElem_cons_zero])
        refine wpAnyJ_take (i := 21) (v := undef) rfl (by kernel_rfl) (by kernel_rfl) (by kernel_rfl) (by kernel_rfl) (fun _ _ _ h => h) (Or.inr (And.intro (by kernel_rfl) rfl)) hS0 ?r21_130
        (try simp only [Act.put, List.setIfInBounds_toArray, List.set_cons_zero, List.set_cons_succ, List.getElem_toArray, List.getElem_cons_succ, List.getElem_cons_zero])
        refine wpAnyJ_take (i := 22) (v := undef) rfl (by kernel_rfl) (by kernel_rfl) (by kernel_rfl) (by kernel_rfl) (fun _ _ _ h => h) (Or.inr (And.intro (by kernel_rfl) rfl)) hS0 ?r22_131
        (try simp only [Act.put, List.setIfInBounds_toArray, List.set_cons_zero, List.set_cons_succ, List.getElem_toArray, List.getElem_cons_succ, List.getElem_cons_zero])
        refine wpAnyJ_take (i := 23) (v := undef) rfl (by kernel_rfl) (by kernel_rfl) (by kernel_rfl) (by kernel_rfl) (fun _ _ _ h => h) (Or.inr (And.intro (by kernel_rfl) rfl)) hS0 ?r23_132
        (try simp only [Act.put, List.setIfInBounds_toArray, List.set_cons_zero, List.set_cons_succ, List.getElem_toArray, List.getElem_cons_succ, List.getElem_cons_zero])
        refine wpAnyJ_take (i := 24) (v := ?v24_133) rfl (by kernel_rfl) (by kernel_rfl) (by kernel_rfl) (by kernel_rfl) (fun _ _ _ h => h) (Or.inl (And.intro (by kernel_rfl) ?q24_133)) hS0 ?r24_133; (case q24_133 => (intro w hx; (try dsimp only); (try go_simp); (try with_reducible rfl)))
        (try simp only [Act.put, List.setIfInBounds_toArray, List.set_cons_zero, List.set_cons_succ, List.getElem_toArray, List.getElem_cons_succ, List.getElem_cons_zero])
        refine wpAnyJ_take (i := 25) (v := ?v25_134) rfl (by kernel_rfl) (by kernel_rfl) (by kernel_rfl) (by kernel_rfl) (fun _ _ _ h => h) (Or.inl (And.intro (by kernel_rfl) ?q25_134)) hS0 ?r25_134; (case q25_134 => (intro w hx; (try dsimp only); (try go_simp); (try with_reducible rfl)))
        (try simp only [Act.put, List.setIfInBounds_toArray, List.set_cons_zero, List.set_cons_succ, List.getElem_toArray, List.getElem_cons_succ, List.getElem_cons_zero])
        refine wpAnyJ_take (i := 26) (v := ?v26_135) rfl (by kernel_rfl) (by kernel_rfl) (by kernel_rfl) (by kernel_rfl) (fun _ _ _ h => h) (Or.inl (And.intro (by kernel_rfl) ?q26_135)) hS0 ?r26_135; (case q26_135 => (intro w hx; (try dsimp only); (try go_simp); (try with_reducible rfl)))
        (try simp only [Act.put, List.setIfInBounds_toArray, List.set_cons_zero, List.set_cons_succ, List.getElem_toArray, List.getElem_cons_succ, List.getElem_cons_zero])
        refine wpAnyJ_take (i := 27) (v := ?v27_136) rfl (by kernel_rfl) (by kernel_rfl) (by kernel_rfl) (by kernel_rfl) (fun _ _ _ h => h) (Or.inl (And.intro (by kernel_rfl) ?q27_136)) hS0 ?r27_136; (case q27_136 => (intro w hx; (try dsimp only); (try go_simp); (try with_reducible rfl)))
        (try simp only [Act.put, List.setIfInBounds_toArray, List.set_cons_zero, List.set_cons_succ, List.getElem_toArray, List.getElem_cons_succ, List.getElem_cons_zero])
        refine wpAnyJ_take (i := 28) (v := ?v28_137) rfl (by kernel_rfl) (by kernel_rfl) (by kernel_rfl) (by kernel_rfl) (fun _ _ _ h => h) (Or.inl (And.intro (by kernel_rfl) ?q28_137)) hS0 ?r28_137; (case q28_137 => (intro w hx; (try dsimp only); (try go_simp); (try with_reducible rfl)))
        (try simp only [Act.put, List.setIfInBounds_toArray, List.set_cons_zero, List.set_cons_succ, List.getElem_toArray, List.getElem_cons_succ, List.getElem_cons_zero])
        refine wpAnyJ_take (i := 29) (v := ?v29_138) rfl (by kernel_rfl) (by kernel_rfl) (by kernel_rfl) (by kernel_rfl) (fun _ _ _ h => h) (Or.inl (And.intro (by kernel_rfl) ?q29_138)) hS0 ?r29_138; (case q29_138 => (intro w hx; (try dsimp only); (try go_simp); (try with_reducible rfl)))
        (try simp only [Act.put, List.setIfInBounds_toArray, List.set_cons_zero, List.set_cons_succ, List.getElem_toArray, List.getElem_cons_succ, List.getElem_cons_zero])
        refine wpAnyJ_take (i := 30) (v := ?v30_139) rfl (by kernel_rfl) (by kernel_rfl) (by kernel_rfl) (by kernel_rfl) (fun _ _ _ h => h) (Or.inl (And.intro (by kernel_rfl) ?q30_139)) hS0 ?r30_139; (case q30_139 => (intro w hx; (try dsimp only); (try go_simp); (try with_reducible rfl)))
        (try simp only [Act.put, List.setIfInBounds_toArray, List.set_cons_zero, List.set_cons_succ, List.getElem_toArray, List.getElem_cons_succ, List.getElem_cons_zero])
        refine wpAnyJ_take (i := 31) (v := ?v31_140) rfl (by kernel_rfl) (by kernel_rfl) (by kernel_rfl) (by kernel_rfl) (fun _ _ _ h => h) (Or.inl (And.intro (by kernel_rfl) ?q31_140)) hS0 ?r31_140; (case q31_140 => (intro w hx; (try dsimp only); (try go_simp); (try with_reducible rfl)))
        (try simp only [Act.put, List.setIfInBounds_toArray, List.set_cons_zero, List.set_cons_succ, List.getElem_toArray, List.getElem_cons_succ, List.getElem_cons_zero])
        refine wpAnyJ_take (i := 32) (v := ?v32_141) rfl (by kernel_rfl) (by kernel_rfl) (by kernel_rfl) (by kernel_rfl) (fun _ _ _ h => h) (Or.inl (And.intro (by kernel_rfl) ?q32_141)) hS0 ?r32_141; (case q32_141 => (intro w hx; (try dsimp only); (try go_simp); (try with_reducible rfl)))
        (try simp only [Act.put, List.setIfInBounds_toArray, List.set_cons_zero, List.set_cons_succ, List.getElem_toArray, List.getElem_cons_succ, List.getElem_cons_zero])
        refine wpAnyJ_take (i := 33) (v := undef) rfl (by kernel_rfl) (by kernel_rfl) (by kernel_rfl) (by kernel_rfl) (fun _ _ _ h => h) (Or.inr (And.intro (by kernel_rfl) rfl)) hS0 ?r33_142
        (try simp only [Act.put, List.setIfInBounds_toArray, List.set_cons_zero, List.set_cons_succ, List.getElem_toArray, List.getElem_cons_succ, List.getElem_cons_zero])
        refine wpAnyJ_take (i := 34) (v := undef) rfl (by kernel_rfl) (by kernel_rfl) (by kernel_rfl) (by kernel_rfl) (fun _ _ _ h => h) (Or.inr (And.intro (by kernel_rfl) rfl)) hS0 ?r34_143
        (try simp only [Act.put, List.setIfInBounds_toArray, List.set_cons_zero, List.set_cons_succ, List.getElem_toArray, List.getElem_cons_succ, List.getElem_cons_zero])
        refine wpAnyJ_take (i := 35) (v := ?v35_144) rfl (by kernel_rfl) (by kernel_rfl) (by kernel_rfl) (by kernel_rfl) (fun _ _ _ h => h) (Or.inl (And.intro (by kernel_rfl) ?q35_144)) hS0 ?r35_144; (case q35_144 => (intro w hx; (try dsimp only); (try go_simp); (try with_reducible rfl)))
        (try simp only [Act.put, List.setIfInBounds_toArray, List.set_cons_zero, List.set_cons_succ, List.getElem_toArray, List.getElem_cons_succ, List.getElem_cons_zero])
        refine wpAnyJ_take (i := 36) (v := ?v36_145) rfl (by kernel_rfl) (by kernel_rfl) (by kernel_rfl) (by kernel_rfl) (fun _ _ _ h => h) (Or.inl (And.intro (by kernel_rfl) ?q36_145)) hS0 ?r36_145; (case q36_145 => (intro w hx; (try dsimp only); (try go_simp); (try with_reducible rfl)))
        (try simp only [Act.put, List.setIfInBounds_toArray, List.set_cons_zero, List.set_cons_succ, List.getElem_toArray, List.getElem_cons_succ, List.getElem_cons_zero])
        refine wpAnyJ_done (by kernel_rfl) ?_ _
      replace TWO := hide (TWO.out.below hS0)
      clear hS0 bb
      generalize w7.drew = w9 at *
      have RM9 := fun g (hg : (Value.slice A1 m c1).ownBlock = some g) => TWO.out.rm.row hg
      have V9 := fun g (hg : v1.ownBlock = some g) => TWO.out.ts.row.row hg
      have S9 := Cells.lt TWO.out.ts.tbl
      have SZ := hide (TWO.out.bw.size)
      go_upto_region 13 with (go_at_call 22; (refine (t_List _ B _ _ _ _ _ TWO.out.ts (by have := GL.out.len; omega)).mono ?_); rintro e w10 ⟨vn2, rfl, r10, b10, f10⟩)
      obtain ⟨A3, c3, rfl⟩ := slice_of r10
      rw [← ML.out] at r10 f10 ⊢
      replace TWO := hide (TWO.out.below b10)
      have R10 := hide r10; have F10 := hide f10; have B10 := hide (show ∀ g, (Value.slice A1 m c1).ownBlock = some g → g < w9.heap.size from RM9)
      have V10 := hide V9; have S10 := hide S9
      clear r10 f10 b10 RM9 V9 S9
      generalize w10 = w11 at *
      go_wp2_with fail
      go_loopg [13] m (fun gg sj wr => ∃ kk : Nat, kk ≤ m ∧ m - kk ≤ gg ∧ sj = .int .i64 kk ∧ Aside (Two B l v1 A1 c1 m w wr ∧ RR wr (.slice A3 m c3) (struck l kk)))
      case atStart => exact ⟨0, Nat.zero_le _, by omega, rfl, ⟨TWO.out, by rw [struck_zero]; exact R10.out⟩⟩
      case round =>
        obtain ⟨kk, hkk, hg, rfl, BW⟩ := hrel
        by_cases hlt : kk < m
        · have hltz : (kk : Int) < (m : Int) := by omega
          have hl : kk < l.length := by have := ML.out; omega
          obtain ⟨r, hr⟩ : ∃ r, l[kk]? = some r := ⟨_, List.getElem?_eq_getElem hl⟩
          have rm := BW.out.1.rm
          have rn := BW.out.2
          obtain ⟨g1, hg1⟩ := slice_some rm (by omega)
          obtain ⟨g2, hg2⟩ := slice_some rn (by rw [struck_length (by omega)]; omega)
          cases hg1; cases hg2
          have z0 : ∀ W', Below wr.heap.size wr W' → World.cell? W' ⟨g1, kk * 11, none⟩ = some (.int .i64 r.k) := fun W' hW => RR.slot (i := 0) (RR.below rm hW) hl hr (by omega) rfl
          have z1 : ∀ W', Below wr.heap.size wr W' → World.cell? W' ⟨g1, kk * 11 + 1, none⟩ = some (.int .u8 r.p) := fun W' hW => RR.slot (i := 1) (RR.below rm hW) hl hr (by omega) rfl
          have z2 : ∀ W', Below wr.heap.size wr W' → World.cell? W' ⟨g1, kk * 11 + 2, none⟩ = some (.int .u32 r.sa) := fun W' hW => RR.slot (i := 2) (RR.below rm hW) hl hr (by omega) rfl
          have z3 : ∀ W', Below wr.heap.size wr W' → World.cell? W' ⟨g1, kk * 11 + 3, none⟩ = some (.int .i64 r.sb) := fun W' hW => RR.slot (i := 3) (RR.below rm hW) hl hr (by omega) rfl
          have z4 : ∀ W', Below wr.heap.size wr W' → World.cell? W' ⟨g1, kk * 11 + 4, none⟩ = some (.int .u32 r.da) := fun W' hW => RR.slot (i := 4) (RR.below rm hW) hl hr (by omega) rfl
          have z5 : ∀ W', Below wr.heap.size wr W' → World.cell? W' ⟨g1, kk * 11 + 5, none⟩ = some (.int .i64 r.db) := fun W' hW => RR.slot (i := 5) (RR.below rm hW) hl hr (by omega) rfl
          have z6 : ∀ W', Below wr.heap.size wr W' → World.cell? W' ⟨g1, kk * 11 + 6, none⟩ = some (.int .u32 r.e) := fun W' hW => RR.slot (i := 6) (RR.below rm hW) hl hr (by omega) rfl
          have z7 : ∀ W', Below wr.heap.size wr W' → World.cell? W' ⟨g1, kk * 11 + 7, none⟩ = some (.int .u16 r.f) := fun W' hW => RR.slot (i := 7) (RR.below rm hW) hl hr (by omega) rfl
          have z8 : ∀ W', Below wr.heap.size wr W' → World.cell? W' ⟨g1, kk * 11 + 8, none⟩ = some (.int .u16 r.t) := fun W' hW => RR.slot (i := 8) (RR.below rm hW) hl hr (by omega) rfl
          have z9 : ∀ W', Below wr.heap.size wr W' → World.cell? W' ⟨g1, kk * 11 + 9, none⟩ = some (.int .u32 r.ia) := fun W' hW => RR.slot (i := 9) (RR.below rm hW) hl hr (by omega) rfl
          have z10 : ∀ W', Below wr.heap.size wr W' → World.cell? W' ⟨g1, kk * 11 + 10, none⟩ = some (.int .u16 r.ip) := fun W' hW => RR.slot (i := 10) (RR.below rm hW) hl hr (by omega) rfl
          have y0 : ∀ W', Below wr.heap.size wr W' → World.cell? W' ⟨g2, kk * 11, none⟩ = some (.int .i64 r.k) := fun W' hW => RR.slot (i := 0) (RR.below rn hW) (by rw [struck_length (by omega)]; exact hl) ((struck_at hl).trans hr) (by omega) rfl
          have y1 : ∀ W', Below wr.heap.size wr W' → World.cell? W' ⟨g2, kk * 11 + 1, none⟩ = some (.int .u8 r.p) := fun W' hW => RR.slot (i := 1) (RR.below rn hW) (by rw [struck_length (by omega)]; exact hl) ((struck_at hl).trans hr) (by omega) rfl
          have y2 : ∀ W', Below wr.heap.size wr W' → World.cell? W' ⟨g2, kk * 11 + 2, none⟩ = some (.int .u32 r.sa) := fun W' hW => RR.slot (i := 2) (RR.below rn hW) (by rw [struck_length (by omega)]; exact hl) ((struck_at hl).trans hr) (by omega) rfl
          have y3 : ∀ W', Below wr.heap.size wr W' → World.cell? W' ⟨g2, kk * 11 + 3, none⟩ = some (.int .i64 r.sb) := fun W' hW => RR.slot (i := 3) (RR.below rn hW) (by rw [struck_length (by omega)]; exact hl) ((struck_at hl).trans hr) (by omega) rfl
          have y4 : ∀ W', Below wr.heap.size wr W' → World.cell? W' ⟨g2, kk * 11 + 4, none⟩ = some (.int .u32 r.da) := fun W' hW => RR.slot (i := 4) (RR.below rn hW) (by rw [struck_length (by omega)]; exact hl) ((struck_at hl).trans hr) (by omega) rfl
          have y5 : ∀ W', Below wr.heap.size wr W' → World.cell? W' ⟨g2, kk * 11 + 5, none⟩ = some (.int .i64 r.db) := fun W' hW => RR.slot (i := 5) (RR.below rn hW) (by rw [struck_length (by omega)]; exact hl) ((struck_at hl).trans hr) (by omega) rfl
          have y6 : ∀ W', Below wr.heap.size wr W' → World.cell? W' ⟨g2, kk * 11 + 6, none⟩ = some (.int .u32 r.e) := fun W' hW => RR.slot (i := 6) (RR.below rn hW) (by rw [struck_length (by omega)]; exact hl) ((struck_at hl).trans hr) (by omega) rfl
          have y7 : ∀ W', Below wr.heap.size wr W' → World.cell? W' ⟨g2, kk * 11 + 7, none⟩ = some (.int .u16 r.f) := fun W' hW => RR.slot (i := 7) (RR.below rn hW) (by rw [struck_length (by omega)]; exact hl) ((struck_at hl).trans hr) (by omega) rfl
          have y8 : ∀ W', Below wr.heap.size wr W' → World.cell? W' ⟨g2, kk * 11 + 8, none⟩ = some (.int .u16 r.t) := fun W' hW => RR.slot (i := 8) (RR.below rn hW) (by rw [struck_length (by omega)]; exact hl) ((struck_at hl).trans hr) (by omega) rfl
          have y9 : ∀ W', Below wr.heap.size wr W' → World.cell? W' ⟨g2, kk * 11 + 9, none⟩ = some (.int .u32 r.ia) := fun W' hW => RR.slot (i := 9) (RR.below rn hW) (by rw [struck_length (by omega)]; exact hl) ((struck_at hl).trans hr) (by omega) rfl
          have y10 : ∀ W', Below wr.heap.size wr W' → World.cell? W' ⟨g2, kk * 11 + 10, none⟩ = some (.int .u16 r.ip) := fun W' hW => RR.slot (i := 10) (RR.below rn hW) (by rw [struck_length (by omega)]; exact hl) ((struck_at hl).trans hr) (by omega) rfl
          have bb : Below wr.heap.size wr wr := Below.refl _ _
          have fz : ∀ W' i, Below wr.heap.size wr W' → World.frozen? W' ⟨g2, i, none⟩ = false := fun W' i h => RR.free (RR.below rn h) (by intro e; have h := congrArg List.length e; rw [struck_length (by omega)] at h; have h' : l.length = 0 := h; omega) i
          have RMH := hide rm; have RNH := hide rn; have HRR := hide hr; have BW' := hide BW
          clear rm rn hr BW
          go_upto_region 18 with fail
          focus
            refine wp_region_J [] (fun W => Below wr.heap.size wr W) (by kernel_rfl) (bb.drew) (fun hS0 => ?_)
            refine wpAnyJ_take (i := 0) (v := ?v0_146) rfl (by kernel_rfl) (by kernel_rfl) (by kernel_rfl) (by kernel_rfl) (fun _ _ _ h => h) (Or.inl (And.intro (by kernel_rfl) ?q0_146)) hS0 ?r0_146; (case q0_146 => (intro w hx; (try dsimp only); (try go_simp); (try with_reducible rfl)))
            (try simp only [Act.put, List.setIfInBounds_toArray, List.set_cons_zero, List.set_cons_succ, List.getElem_toArray, List.getElem_cons_succ, List.getElem_cons_zero])
            refine wpAnyJ_take (i := 1) (v := ?v1_147) rfl (by kernel_rfl) (by kernel_rfl) (by kernel_rfl) (by kernel_rfl) (fun _ _ _ h => h) (Or.inl (And.intro (by kernel_rfl) ?q1_147)) hS0 ?r1_147; (case q1_147 => (intro w hx; (try dsimp only); (try go_simp); (try with_reducible rfl)))
            (try simp only [Act.put, List.setIfInBounds_toArray, List.set_cons_zero, List.set_cons_succ, List.getElem_toArray, List.getElem_cons_succ, List.getElem_cons_zero])
            refine wpAnyJ_take (i := 2) (v := ?v2_148) rfl (by kernel_rfl) (by kernel_rfl) (by kernel_rfl) (by kernel_rfl) (fun _ _ _ h => h) (Or.inl (And.intro (by kernel_rfl) ?q2_148)) hS0 ?r2_148; (case q2_148 => (intro w hx; (try dsimp only); (try go_simp); (try with_reducible rfl)))
            (try simp only [Act.put, List.setIfInBounds_toArray, List.set_cons_zero, List.set_cons_succ, List.getElem_toArray, List.getElem_cons_succ, List.getElem_cons_zero])
            refine wpAnyJ_take (i := 3) (v := ?v3_149) rfl (by kernel_rfl) (by kernel_rfl) (by kernel_rfl) (by kernel_rfl) (fun _ _ _ h => h) (Or.inl (And.intro (by kernel_rfl) ?q3_149)) hS0 ?r3_149; (case q3_149 => (intro w hx; (try dsimp only); (try go_simp); (try with_reducible rfl)))
            (try simp only [Act.put, List.setIfInBounds_toArray, List.set_cons_zero, List.set_cons_succ, List.getElem_toArray, List.getElem_cons_succ, List.getElem_cons_zero])
            refine wpAnyJ_take (i := 4) (v := ?v4_150) rfl (by kernel_rfl) (by kernel_rfl) (by kernel_rfl) (by kernel_rfl) (fun _ _ _ h => h) (Or.inl (And.intro (by kernel_rfl) ?q4_150)) hS0 ?r4_150; (case q4_150 => (intro w hx; (try dsimp only); (try go_simp); (try with_reducible rfl)))
            (try simp only [Act.put, List.setIfInBounds_toArray, List.set_cons_zero, List.set_cons_succ, List.getElem_toArray, List.getElem_cons_succ, List.getElem_cons_zero])
            refine wpAnyJ_take (i := 5) (v := ?v5_151) rfl (by kernel_rfl) (by kernel_rfl) (by kernel_rfl) (by kernel_rfl) (fun _ _ _ h => h) (Or.inl (And.intro (by kernel_rfl) ?q5_151)) hS0 ?r5_151; (case q5_151 => (intro w hx; (try dsimp only); (try go_simp); (try with_reducible rfl)))
            (try simp only [Act.put, List.setIfInBounds_toArray, List.set_cons_zero, List.set_cons_succ, List.getElem_toArray, List.getElem_cons_succ, List.getElem_cons_zero])
            refine wpAnyJ_take (i := 6) (v := ?v6_152) rfl (by kernel_rfl) (by kernel_rfl) (by kernel_rfl) (by kernel_rfl) (fun _ _ _ h => h) (Or.inl (And.intro (by kernel_rfl) ?q6_152)) hS0 ?r6_152; (case q6_152 => (intro w hx; (try dsimp only); (try go_simp); (try with_reducible rfl)))
            (try simp only [Act.put, List.setIfInBounds_toArray, List.set_cons_zero, List.set_cons_succ, List.getElem_toArray, List.getElem_cons_succ, List.getElem_cons_zero])
            refine wpAnyJ_take (i := 7) (v := ?v7_153) rfl (by kernel_rfl) (by kernel_rfl) (by kernel_rfl) (by kernel_rfl) (fun _ _ _ h => h) (Or.inl (And.intro (by kernel_rfl) ?q7_153)) hS0 ?r7_153; (case q7_153 => (intro w hx; (try dsimp only); (try go_simp); (try with_reducible rfl)))
            (try simp only [Act.put, List.setIfInBounds_toArray, List.set_cons_zero, List.set_cons_succ, List.getElem_toArray, List.getElem_cons_succ, List.getElem_cons_zero])
            refine wpAnyJ_take (i := 8) (v := ?v8_154) rfl (by kernel_rfl) (by kernel_rfl) (by kernel_rfl) (by kernel_rfl) (fun _ _ _ h => h) (Or.inl (And.intro (by kernel_rfl) ?q8_154)) hS0 ?r8_154; (case q8_154 => (intro w hx; (try dsimp only); (try go_simp); (try with_reducible rfl)))
            (try simp only [Act.put, List.setIfInBounds_toArray, List.set_cons_zero, List.set_cons_succ, List.getElem_toArray, List.getElem_cons_succ, List.getElem_cons_zero])
            refine wpAnyJ_done (by kernel_rfl) ?_ _
          go_wp2_with fail
          go_roundg (m - (kk + 1))
          case measure => omega
          case rel =>
            have k1 := BW'.out.out.1
            have k2 := RNH.out
            have hga := F10.out g2 rfl
            have hs := RR.set k2 kk (by rw [struck_length (by omega)]; exact hl) zeroR
            rw [struck_set hl] at hs
            have ht := Two.set k1 g2 (kk * 11) zeroR.cells.toList (by have := S10.out; omega) (fun e => by have h7 : g2 < w9.heap.size := V10.out g2 e; omega) (fun e => by have h7 : g2 < w9.heap.size := B10.out g2 e; omega) (by have := SZ.out; omega)
            exact ⟨kk + 1, by omega, by omega, by go_num, (show Aside _ from ⟨Two.below ht (Below.refl _ _).drew, RR.below hs (Below.refl _ _).drew⟩)⟩
        · have hltz : ¬ (kk : Int) < (m : Int) := by omega
          have hmk : m = kk := by omega
          subst hmk
          have TW := hide BW.out.1
          clear BW
          go_upto_region 22 with (go_at_call 22; (refine (t_List _ B _ _ _ _ _ TW.out.ts (by have := GL.out.len; omega)).mono ?_); rintro e w12 ⟨vn3, rfl, r12, b12, f12⟩)
          obtain ⟨A4, c4, rfl⟩ := slice_of r12
          rw [← ML.out] at r12 ⊢
          replace TW := hide (TW.out.below b12)
          have R12 := hide r12
          clear r12 f12 b12 R10 F10 B10 V10 S10 SZ
          generalize w12 = w13 at *
          go_wp2_with fail
          go_loopg [14] m (fun gg sj wr => ∃ kk : Nat, kk ≤ m ∧ m - kk ≤ gg ∧ sj = .int .i64 kk ∧ Aside (Two B l v1 A1 c1 m w wr ∧ RR wr (.slice A4 m c4) l))
          case atStart => exact ⟨0, Nat.zero_le _, by omega, rfl, ⟨TW.out, R12.out⟩⟩
          case round =>
            obtain ⟨kk, hkk, hg, rfl, BW⟩ := hrel
            by_cases hlt : kk < m
            · have hltz : (kk : Int) < (m : Int) := by omega
              have hl : kk < l.length := by have := ML.out; omega
              obtain ⟨r, hr⟩ : ∃ r, l[kk]? = some r := ⟨_, List.getElem?_eq_getElem hl⟩
              have rm := BW.out.1.rm
              have rn := BW.out.2
              obtain ⟨g1, hg1⟩ := slice_some rm (by omega)
              obtain ⟨g2, hg2⟩ := slice_some rn (by omega)
              cases hg1; cases hg2
              have z0 : ∀ W', Below wr.heap.size wr W' → World.cell? W' ⟨g1, kk * 11, none⟩ = some (.int .i64 r.k) := fun W' hW => RR.slot (i := 0) (RR.below rm hW) hl hr (by omega) rfl
              have z1 : ∀ W', Below wr.heap.size wr W' → World.cell? W' ⟨g1, kk * 11 + 1, none⟩ = some (.int .u8 r.p) := fun W' hW => RR.slot (i := 1) (RR.below rm hW) hl hr (by omega) rfl
              have z2 : ∀ W', Below wr.heap.size wr W' → World.cell? W' ⟨g1, kk * 11 + 2, none⟩ = some (.int .u32 r.sa) := fun W' hW => RR.slot (i := 2) (RR.below rm hW) hl hr (by omega) rfl
              have z3 : ∀ W', Below wr.heap.size wr W' → World.cell? W' ⟨g1, kk * 11 + 3, none⟩ = some (.int .i64 r.sb) := fun W' hW => RR.slot (i := 3) (RR.below rm hW) hl hr (by omega) rfl
              have z4 : ∀ W', Below wr.heap.size wr W' → World.cell? W' ⟨g1, kk * 11 + 4, none⟩ = some (.int .u32 r.da) := fun W' hW => RR.slot (i := 4) (RR.below rm hW) hl hr (by omega) rfl
              have z5 : ∀ W', Below wr.heap.size wr W' → World.cell? W' ⟨g1, kk * 11 + 5, none⟩ = some (.int .i64 r.db) := fun W' hW => RR.slot (i := 5) (RR.below rm hW) hl hr (by omega) rfl
              have z6 : ∀ W', Below wr.heap.size wr W' → World.cell? W' ⟨g1, kk * 11 + 6, none⟩ = some (.int .u32 r.e) := fun W' hW => RR.slot (i := 6) (RR.below rm hW) hl hr (by omega) rfl
              have z7 : ∀ W', Below wr.heap.size wr W' → World.cell? W' ⟨g1, kk * 11 + 7, none⟩ = some (.int .u16 r.f) := fun W' hW => RR.slot (i := 7) (RR.below rm hW) hl hr (by omega) rfl
              have z8 : ∀ W', Below wr.heap.size wr W' → World.cell? W' ⟨g1, kk * 11 + 8, none⟩ = some (.int .u16 r.t) := fun W' hW => RR.slot (i := 8) (RR.below rm hW) hl hr (by omega) rfl
              have z9 : ∀ W', Below wr.heap.size wr W' → World.cell? W' ⟨g1, kk * 11 + 9, none⟩ = some (.int .u32 r.ia) := fun W' hW => RR.slot (i := 9) (RR.below rm hW) hl hr (by omega) rfl
              have z10 : ∀ W', Below wr.heap.size wr W' → World.cell? W' ⟨g1, kk * 11 + 10, none⟩ = some (.int .u16 r.ip) := fun W' hW => RR.slot (i := 10) (RR.below rm hW) hl hr (by omega) rfl
              have y0 : ∀ W', Below wr.heap.size wr W' → World.cell? W' ⟨g2, kk * 11, none⟩ = some (.int .i64 r.k) := fun W' hW => RR.slot (i := 0) (RR.below rn hW) hl hr (by omega) rfl
              have y1 : ∀ W', Below wr.heap.size wr W' → World.cell? W' ⟨g2, kk * 11 + 1, none⟩ = some (.int .u8 r.p) := fun W' hW => RR.slot (i := 1) (RR.below rn hW) hl hr (by omega) rfl
              have y2 : ∀ W', Below wr.heap.size wr W' → World.cell? W' ⟨g2, kk * 11 + 2, none⟩ = some (.int .u32 r.sa) := fun W' hW => RR.slot (i := 2) (RR.below rn hW) hl hr (by omega) rfl
              have y3 : ∀ W', Below wr.heap.size wr W' → World.cell? W' ⟨g2, kk * 11 + 3, none⟩ = some (.int .i64 r.sb) := fun W' hW => RR.slot (i := 3) (RR.below rn hW) hl hr (by omega) rfl
              have y4 : ∀ W', Below wr.heap.size wr W' → World.cell? W' ⟨g2, kk * 11 + 4, none⟩ = some (.int .u32 r.da) := fun W' hW => RR.slot (i := 4) (RR.below rn hW) hl hr (by omega) rfl
              have y5 : ∀ W', Below wr.heap.size wr W' → World.cell? W' ⟨g2, kk * 11 + 5, none⟩ = some (.int .i64 r.db) := fun W' hW => RR.slot (i := 5) (RR.below rn hW) hl hr (by omega) rfl
              have y6 : ∀ W', Below wr.heap.size wr W' → World.cell? W' ⟨g2, kk * 11 + 6, none⟩ = some (.int .u32 r.e) := fun W' hW => RR.slot (i := 6) (RR.below rn hW) hl hr (by omega) rfl
              have y7 : ∀ W', Below wr.heap.size wr W' → World.cell? W' ⟨g2, kk * 11 + 7, none⟩ = some (.int .u16 r.f) := fun W' hW => RR.slot (i := 7) (RR.below rn hW) hl hr (by omega) rfl
              have y8 : ∀ W', Below wr.heap.size wr W' → World.cell? W' ⟨g2, kk * 11 + 8, none⟩ = some (.int .u16 r.t) := fun W' hW => RR.slot (i := 8) (RR.below rn hW) hl hr (by omega) rfl
              have y9 : ∀ W', Below wr.heap.size wr W' → World.cell? W' ⟨g2, kk * 11 + 9, none⟩ = some (.int .u32 r.ia) := fun W' hW => RR.slot (i := 9) (RR.below rn hW) hl hr (by omega) rfl
              have y10 : ∀ W', Below wr.heap.size wr W' → World.cell? W' ⟨g2, kk * 11 + 10, none⟩ = some (.int .u16 r.ip) := fun W' hW => RR.slot (i := 10) (RR.below rn hW) hl hr (by omega) rfl
              have bb : Below wr.heap.size wr wr := Below.refl _ _
              have RMH := hide rm; have RNH := hide rn; have HRR := hide hr; have BW' := hide BW
              clear rm rn hr BW
              go_upto_region 25 with fail
              focus
                refine wp_region_J [] (fun W => Below wr.heap.size wr W) (by kernel_rfl) (bb.drew) (fun hS0 => ?_)
                refine wpAnyJ_take (i := 0) (v := ?v0_155) rfl (by kernel_rfl) (by kernel_rfl) (by kernel_rfl) (by kernel_rfl) (fun _ _ _ h => h) (Or.inl (And.intro (by kernel_rfl) ?q0_155)) hS0 ?r0_155; (case q0_155 => (intro w hx; (try dsimp only); (try go_simp); (try with_reducible rfl)))
                (try simp only [Act.put, List.setIfInBounds_toArray, List.set_cons_zero, List.set_cons_succ, List.getElem_toArray, List.getElem_cons_succ, List.getElem_cons_zero])
                refine wpAnyJ_take (i := 1) (v := ?v1_156) rfl (by kernel_rfl) (by kernel_rfl) (by kernel_rfl) (by kernel_rfl) (fun _ _ _ h => h) (Or.inl (And.intro (by kernel_rfl) ?q1_156)) hS0 ?r1_156; (case q1_156 => (intro w hx; (try dsimp only); (try go_simp); (try with_reducible rfl)))
                (try simp only [Act.put, List.setIfInBounds_toArray, List.set_cons_zero, List.set_cons_succ, List.getElem_toArray, List.getElem_cons_succ, List.getElem_cons_zero])
                refine wpAnyJ_take (i := 2) (v := ?v2_157) rfl (by kernel_rfl) (by kernel_rfl) (by kernel_rfl) (by kernel_rfl) (fun _ _ _ h => h) (Or.inl (And.intro (by kernel_rfl) ?q2_157)) hS0 ?r2_157; (case q2_157 => (intro w hx; (try dsimp only); (try go_simp); (try with_reducible rfl)))
                (try simp only [Act.put, List.setIfInBounds_toArray, List.set_cons_zero, List.set_cons_succ, List.getElem_toArray, List.getElem_cons_succ, List.getElem_cons_zero])
                refine wpAnyJ_take (i := 3) (v := ?v3_158) rfl (by kernel_rfl) (by kernel_rfl) (by kernel_rfl) (by kernel_rfl) (fun _ _ _ h => h) (Or.inl (And.intro (by kernel_rfl) ?q3_158)) hS0 ?r3_158; (case q3_158 => (intro w hx; (try dsimp only); (try go_simp); (try with_reducible rfl)))
                (try simp only [Act.put, List.setIfInBounds_toArray, List.set_cons_zero, List.set_cons_succ, List.getElem_toArray, List.getElem_cons_succ, List.getElem_cons_zero])
                refine wpAnyJ_take (i := 4) (v := ?v4_159) rfl (by kernel_rfl) (by kernel_rfl) (by kernel_rfl) (by kernel_rfl) (fun _ _ _ h => h) (Or.inl (And.intro (by kernel_rfl) ?q4_159)) hS0 ?r4_159; (case q4_159 => (intro w hx; (try dsimp only); (try go_simp); (try with_reducible rfl)))
                (try simp only [Act.put, List.setIfInBounds_toArray, List.set_cons_zero, List.set_cons_succ, List.getElem_toArray, List.getElem_cons_succ, List.getElem_cons_zero])
                refine wpAnyJ_take (i := 5) (v := ?v5_160) rfl (by kernel_rfl) (by kernel_rfl) (by kernel_rfl) (by kernel_rfl) (fun _ _ _ h => h) (Or.inl (And.intro (by kernel_rfl) ?q5_160)) hS0 ?r5_160; (case q5_160 => (intro w hx; (try dsimp only); (try go_simp); (try with_reducible rfl)))
                (try simp only [Act.put, List.setIfInBounds_toArray, List.set_cons_zero, List.set_cons_succ, List.getElem_toArray, List.getElem_cons_succ, List.getElem_cons_zero])
                refine wpAnyJ_take (i := 6) (v := ?v6_161) rfl (by kernel_rfl) (by kernel_rfl) (by kernel_rfl) (by kernel_rfl) (fun _ _ _ h => h) (Or.inl (And.intro (by kernel_rfl) ?q6_161)) hS0 ?r6_161; (case q6_161 => (intro w hx; (try dsimp only); (try go_simp); (try with_reducible rfl)))
                (try simp only [Act.put, List.setIfInBounds_toArray, List.set_cons_zero, List.set_cons_succ, List.getElem_toArray, List.getElem_cons_succ, List.getElem_cons_zero])
                refine wpAnyJ_take (i := 7) (v := ?v7_162) rfl (by kernel_rfl) (by kernel_rfl) (by kernel_rfl) (by kernel_rfl) (fun _ _ _ h => h) (Or.inl (And.intro (by kernel_rfl) ?q7_162)) hS0 ?r7_162; (case q7_162 => (intro w hx; (try dsimp only); (try go_simp); (try with_reducible rfl)))
                (try simp only [Act.put, List.setIfInBounds_toArray, List.set_cons_zero, List.set_cons_succ, List.getElem_toArray, List.getElem_cons_succ, List.getElem_cons_zero])
                refine wpAnyJ_take (i := 8) (v := ?v8_163) rfl (by kernel_rfl) (by kernel_rfl) (by kernel_rfl) (by kernel_rfl) (fun _ _ _ h => h) (Or.inl (And.intro (by kernel_rfl) ?q8_163)) hS0 ?r8_163; (case q8_163 => (intro w hx; (try dsimp only); (try go_simp); (try with_reducible rfl)))
                (try simp only [Act.put, List.setIfInBounds_toArray, List.set_cons_zero, List.set_cons_succ, List.getElem_toArray, List.getElem_cons_succ, List.getElem_cons_zero])
                refine wpAnyJ_done (by kernel_rfl) ?_ _
              go_wp2_with fail
              go_roundg (m - (kk + 1))
              case measure => omega
              case rel =>
                exact ⟨kk + 1, by omega, by omega, by go_num, (show Aside _ from ⟨Two.below BW'.out.out.1 hS0, RR.below BW'.out.out.2 hS0⟩)⟩
            · have hltz : ¬ (kk : Int) < (m : Int) := by omega
              have hmk : m = kk := by omega
              subst hmk
              have TX := hide BW.out.1.bw
              clear BW
              go_wp2_with (go_at_call 11; (with_reducible refine (CR.out _).mono ?_); rintro e w14 ⟨rfl, b14⟩)
              go_ret
              exact ⟨rfl, bstep TX.out b14⟩
end Go.Proofs.Ytbboajhdijabbaa
