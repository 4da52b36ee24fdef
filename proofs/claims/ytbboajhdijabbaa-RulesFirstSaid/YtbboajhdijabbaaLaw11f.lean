/- RulesFirst: the walk. -/
import Derived.Test.YtbboajhdijabbaaRlaw9
import Derived.Test.YtbboajhdijabbaaRlaw7
import Derived.Test.YtbboajhdijabbaaRlaw3
import Derived.Test.YtbboajhdijabbaaRlaw6
set_option linter.unusedVariables false
set_option linter.unusedSimpArgs false
namespace Go.Proofs.Ytbboajhdijabbaa
open Go.RowKit Go.Lib
attribute [local go_sem] Oper.semAt_some

theorem slice_some {W : World} {A : Option Addr} {n c : Nat} {l : List Rule} (h : RR W (.slice A n c) l) (hl : 0 < l.length) : ∃ g, A = some (⟨g, 0, none⟩ : Addr) := by
  obtain ⟨g, c', hv, _⟩ := RR.cell h (by rintro rfl; simp at hl)
  cases hv
  exact ⟨g, rfl⟩
/-- how far the search has come: 'at' is the place of the first rule that fits, or none of those ahead of kk fits -/
def Seek (p : Rule → Bool) (l : List Rule) (kk : Nat) (v : Value) : Prop :=
  (v = .int .i64 (-1) ∧ Aside (∀ j (h : j < l.length), j < kk → p l[j] = false)) ∨ (∃ j r, v = .int .i64 (j : Nat) ∧ j < l.length ∧ Aside (l[j]? = some r ∧ l.find? p = some r))
theorem find_at {p : Rule → Bool} {l : List Rule} {k : Nat} {r : Rule} (hn : ∀ j (h : j < l.length), j < k → p l[j] = false) (hk : l[k]? = some r) (hp : p r = true) : l.find? p = some r := by
  obtain ⟨hk', rfl⟩ := List.getElem?_eq_some_iff.1 hk
  rw [List.find?_eq_some_iff_getElem]
  exact ⟨hp, k, hk', rfl, fun j hj => by simp [hn j (by omega) hj]⟩
theorem find_no {p : Rule → Bool} {l : List Rule} {k : Nat} (hn : ∀ j (h : j < l.length), j < k → p l[j] = false) (hk : l.length ≤ k) : l.find? p = none ∧ l.any p = false := by
  have h : ∀ x ∈ l, p x = false := fun x hx => by
    obtain ⟨j, hj, rfl⟩ := List.mem_iff_getElem.1 hx
    exact hn j hj (by omega)
  exact ⟨List.find?_eq_none.2 fun x hx => by simp [h x hx], List.any_eq_false.2 fun x hx => by simp [h x hx]⟩
theorem find_any {p : Rule → Bool} {l : List Rule} {r : Rule} (h : l.find? p = some r) : l.any p = true := List.any_eq_true.2 ⟨r, List.mem_of_find?_eq_some h, List.find?_some h⟩
theorem srcP_may {l : List Rule} (h : Good l) {r : Rule} (hr : r ∈ l) (hk : r.k ≠ 3) : mayP r.sa r.sb = true ∧ mayP r.da r.db = true := by
  have hm := h.may r hr
  unfold mayR at hm
  by_cases h1 : r.k = 1
  · rw [if_pos h1] at hm; simp [srOk] at hm; exact ⟨hm.1.1.1.1.2, hm.1.1.1.2⟩
  · rw [if_neg h1] at hm
    by_cases h2 : r.k = 2
    · rw [if_pos h2] at hm; simp [srOk] at hm; exact ⟨hm.1.1.1.1.2, hm.1.1.1.2⟩
    · rw [if_neg h2, if_neg hk] at hm; cases hm

set_option maxHeartbeats 8000000 in
set_option maxRecDepth 100000 in
theorem RulesFirst_walk (A : Option Addr) (n c : Nat) (ds : List Draft) (a0 a1 a2 a3 a4 a5 : Int) (w : World) (hn : n = ds.length) (hrow : DRow w A ds) (hd : ∀ d ∈ ds, d.Ok) (hl63 : n ≤ 9223372036854775807) (h0 : 0 ≤ a0 ∧ a0 ≤ 255) (h1 : 0 ≤ a1 ∧ a1 ≤ 255) (h2 : 0 ≤ a2 ∧ a2 ≤ 255) (h3 : 0 ≤ a3 ∧ a3 ≤ 255) (h4 : 0 ≤ a4 ∧ a4 ≤ 255) (h5 : 0 ≤ a5 ∧ a5 ≤ 255) :
    Calls Try.prog 4 #[.slice A n c, .agg #[.int .u8 a0, .int .u8 a1, .int .u8 a2, .int .u8 a3, .int .u8 a4, .int .u8 a5]] w (Ret (.bool true) w) := by
  have cr := fun W => ruled W
  have CR := hide cr
  clear cr
  by_cases h40 : 40 < n
  · have h40z : (40 : Int) < (n : Int) := by omega
    have hz : (n : Int) ≤ 9223372036854775807 := by omega
    clear hn hrow hd h0 h1 h2 h3 h4 h5 h40 hl63
    go_enter Try.func4, Try.ntmps4
    have d0 := Cells.new w #[.int .u8 a0, .int .u8 a1, .int .u8 a2, .int .u8 a3, .int .u8 a4, .int .u8 a5] 45
    have l0 : Below w.heap.size w (w.alloc (.cells #[.int .u8 a0, .int .u8 a1, .int .u8 a2, .int .u8 a3, .int .u8 a4, .int .u8 a5] 45)) := (fresh_below _ _)
    have L0 := hide l0; have D0 := hide d0
    clear l0 d0
    go_upto_region 1 with fail
    have l0 := L0.out; have d0 := D0.out
    clear L0 D0
    generalize (w.alloc (.cells #[.int .u8 a0, .int .u8 a1, .int .u8 a2, .int .u8 a3, .int .u8 a4, .int .u8 a5] 45)) = w1 at *
    have qd0_0 : ∀ W', Below w1.heap.size w1 W' → World.cell? W' ⟨w.heap.size, 0, none⟩ = some (.int .u8 a0) := fun W' h => Cells.at_ (Cells.below h d0) 0
    have qd0_1 : ∀ W', Below w1.heap.size w1 W' → World.cell? W' ⟨w.heap.size, 1, none⟩ = some (.int .u8 a1) := fun W' h => Cells.at_ (Cells.below h d0) 1
    have qd0_2 : ∀ W', Below w1.heap.size w1 W' → World.cell? W' ⟨w.heap.size, 2, none⟩ = some (.int .u8 a2) := fun W' h => Cells.at_ (Cells.below h d0) 2
    have qd0_3 : ∀ W', Below w1.heap.size w1 W' → World.cell? W' ⟨w.heap.size, 3, none⟩ = some (.int .u8 a3) := fun W' h => Cells.at_ (Cells.below h d0) 3
    have qd0_4 : ∀ W', Below w1.heap.size w1 W' → World.cell? W' ⟨w.heap.size, 4, none⟩ = some (.int .u8 a4) := fun W' h => Cells.at_ (Cells.below h d0) 4
    have qd0_5 : ∀ W', Below w1.heap.size w1 W' → World.cell? W' ⟨w.heap.size, 5, none⟩ = some (.int .u8 a5) := fun W' h => Cells.at_ (Cells.below h d0) 5
    have bb : Below w1.heap.size w1 w1 := Below.refl _ _
    have L0 := hide l0; have D0 := hide d0
    clear l0 d0
    go_wp2_with ((go_at_call 11; (with_reducible refine (CR.out _).mono ?_); rintro e2 w2 ⟨rfl, b2⟩; have b2' := bstep (by assumption : Below w1.heap.size w1 _) b2; clear b2))
    go_ret
    exact ⟨rfl, bstep L0.out (by assumption)⟩
  · have h40z : ¬ (40 : Int) < (n : Int) := by omega
    have hn63 : (n : Int) ≤ 40 := by omega
    have hgood := fillL_good ds hd
    have cf := fun W (h : Below w.heap.size w W) => l_filled W A n c ds hn (hrow.below h) hd (by omega)
    have cfl := fun W => l_Flow W a0 a1 a2 a3 a4 a5 h1 h2 h3 h4 h5
    unfold dFlow at cfl
    have q2b : 0 ≤ 167772160 + a4 % 4 ∧ 167772160 + a4 % 4 ≤ 4294967295 := by omega
    have q4b : 0 ≤ 16909060 + a2 % 3 ∧ 16909060 + a2 % 3 ≤ 4294967295 := by omega
    generalize pr3 (a1 % 3) = q1 at *; generalize 167772160 + a4 % 4 = q2 at *; generalize 1 + a5 % 3 = q3 at *; generalize 16909060 + a2 % 3 = q4 at *; generalize 1 + a3 % 8 = q5 at *
    obtain ⟨l, hl⟩ : ∃ l, l = fillL ds := ⟨_, rfl⟩
    rw [← hl] at cf hgood
    obtain ⟨m, hm⟩ : ∃ m, m = l.length := ⟨_, rfl⟩
    have CF := hide cf; have CFL := hide cfl; have GL := hide hgood; have ML := hide hm; have Q2 := hide q2b; have Q4 := hide q4b
    clear cf cfl hgood hm hn hrow hd h0 h1 h2 h3 h4 h5 hl h40 hl63 q2b q4b
    go_enter Try.func4, Try.ntmps4
    have d0 := Cells.new w #[.int .u8 a0, .int .u8 a1, .int .u8 a2, .int .u8 a3, .int .u8 a4, .int .u8 a5] 45
    have l0 : Below w.heap.size w (w.alloc (.cells #[.int .u8 a0, .int .u8 a1, .int .u8 a2, .int .u8 a3, .int .u8 a4, .int .u8 a5] 45)) := (fresh_below _ _)
    have L0 := hide l0; have D0 := hide d0
    clear l0 d0
    go_upto_region 1 with fail
    have l0 := L0.out; have d0 := D0.out
    clear L0 D0
    generalize (w.alloc (.cells #[.int .u8 a0, .int .u8 a1, .int .u8 a2, .int .u8 a3, .int .u8 a4, .int .u8 a5] 45)) = w1 at *
    have qd0_0 : ∀ W', Below w1.heap.size w1 W' → World.cell? W' ⟨w.heap.size, 0, none⟩ = some (.int .u8 a0) := fun W' h => Cells.at_ (Cells.below h d0) 0
    have qd0_1 : ∀ W', Below w1.heap.size w1 W' → World.cell? W' ⟨w.heap.size, 1, none⟩ = some (.int .u8 a1) := fun W' h => Cells.at_ (Cells.below h d0) 1
    have qd0_2 : ∀ W', Below w1.heap.size w1 W' → World.cell? W' ⟨w.heap.size, 2, none⟩ = some (.int .u8 a2) := fun W' h => Cells.at_ (Cells.below h d0) 2
    have qd0_3 : ∀ W', Below w1.heap.size w1 W' → World.cell? W' ⟨w.heap.size, 3, none⟩ = some (.int .u8 a3) := fun W' h => Cells.at_ (Cells.below h d0) 3
    have qd0_4 : ∀ W', Below w1.heap.size w1 W' → World.cell? W' ⟨w.heap.size, 4, none⟩ = some (.int .u8 a4) := fun W' h => Cells.at_ (Cells.below h d0) 4
    have qd0_5 : ∀ W', Below w1.heap.size w1 W' → World.cell? W' ⟨w.heap.size, 5, none⟩ = some (.int .u8 a5) := fun W' h => Cells.at_ (Cells.below h d0) 5
    have bb : Below w1.heap.size w1 w1 := Below.refl _ _
    have L0 := hide l0; have D0 := hide d0
    clear l0 d0
    clear qd0_0 qd0_1 qd0_2 qd0_3 qd0_4 qd0_5 bb
    go_upto_region 6 with (go_at_call 20; (refine (CF.out _ L0.out).mono ?_); rintro e w2 ⟨B, v0, rfl, ts, hv0, b2, hB⟩)
    have hv2 : ∀ g, v0.ownBlock = some g → g < w2.heap.size := fun g hg => ts.row.row hg
    have hB2 : B < w2.heap.size := Cells.lt ts.tbl
    have hw1 : w.heap.size < w1.heap.size := Cells.lt D0.out
    have d0 := Cells.below b2 D0.out
    replace L0 := hide (bstep L0.out b2)
    have HB2 := hide hB2; have HV2 := hide hv2; have HV0 := hide hv0; have HB := hide hB; have TS2 := hide ts; have HW1 := hide hw1
    clear b2 ts hv2 hB2 hw1 hv0 hB D0
    have xd0_0 : w2.cell? ⟨w.heap.size, 0, none⟩ = some (.int .u8 a0) := d0.at_ 0
    have xd0_1 : w2.cell? ⟨w.heap.size, 1, none⟩ = some (.int .u8 a1) := d0.at_ 1
    have xd0_2 : w2.cell? ⟨w.heap.size, 2, none⟩ = some (.int .u8 a2) := d0.at_ 2
    have xd0_3 : w2.cell? ⟨w.heap.size, 3, none⟩ = some (.int .u8 a3) := d0.at_ 3
    have xd0_4 : w2.cell? ⟨w.heap.size, 4, none⟩ = some (.int .u8 a4) := d0.at_ 4
    have xd0_5 : w2.cell? ⟨w.heap.size, 5, none⟩ = some (.int .u8 a5) := d0.at_ 5
    clear d0
    go_wp2_with (go_at_call 21; (with_reducible refine (CFL.out _).mono ?_); rintro e2 w3 ⟨rfl, b3⟩)
    clear xd0_0 xd0_1 xd0_2 xd0_3 xd0_4 xd0_5
    have nn := Cells.new w3 #[.int .u8 q1, .int .u32 q2, .int .u16 q3, .int .u32 q4, .int .u16 q5] 49
    have bn : Below w2.heap.size w2 (w3.alloc (.cells #[.int .u8 q1, .int .u32 q2, .int .u16 q3, .int .u32 q4, .int .u16 q5] 49)) := bstep b3 (fresh_below _ _)
    have hg7 : w2.heap.size ≤ w3.heap.size := b3.size
    generalize w3.heap.size = g7 at nn hg7 ⊢
    generalize (w3.alloc (.cells #[.int .u8 q1, .int .u32 q2, .int .u16 q3, .int .u32 q4, .int .u16 q5] 49)) = w6 at *
    have H6 := hide (Held.start (TS.b bn TS2.out))
    have D7 := hide nn
    have L6 := hide (bstep L0.out bn)
    have HG7 := hide (show g7 ≠ B ∧ ¬ v0.ownBlock = some g7 from ⟨by have := HB2.out; omega, fun e => by have := HV2.out g7 e; omega⟩)
    have HBW := hide (show w.heap.size ≤ B ∧ ∀ g, v0.ownBlock = some g → w.heap.size ≤ g from ⟨by have := HB.out; have := HW1.out; omega, fun g e => by have := HV0.out g e; have := HW1.out; omega⟩)
    clear bn nn b3 hg7 L0 HB2 HV2 HV0 HB TS2 HW1 CF CFL
    go_loopg [8, 9, 10, 11, 12, 13, 14] m (fun gg _ _ _ _ _ _ _ wr => ∃ l' : List Rule, l'.length ≤ gg ∧ Aside (Good l' ∧ Held w6 v0 B 151587081 167772160 8 l' wr))
    case atStart => exact ⟨l, by have := ML.out; omega, (show Aside _ from ⟨GL.out, H6.out⟩)⟩
    case round =>
      obtain ⟨l', hgl, HH⟩ := hrel
      clear GL ML H6
      have GL := hide HH.out.1; have HW := hide HH.out.2
      clear HH
      obtain ⟨m', hm'⟩ : ∃ m', m' = l'.length := ⟨_, rfl⟩
      have hm32 : m' ≤ 32 := by have := GL.out.len; omega
      have hmz : (m' : Int) ≤ 32 := by omega
      have ML := hide hm'
      go_upto_region 8 with (go_at_call 22; (refine (h_List (by have := GL.out.len; omega) _ HW.out).mono ?_); rintro e w7 ⟨A1, c1, rfl, r7, b7, f7⟩)
      rw [← hm'] at r7 ⊢
      have H7 := hide (Held.below HW.out b7)
      have R7 := hide r7
      have hgl' := hgl
      rw [← hm'] at hgl'
      clear r7 f7 b7 HW hgl hm'
      have d7 := Cells.only D7.out H7.out.only (by rintro (e | e); exact HG7.out.1 e; exact HG7.out.2 e)
      obtain ⟨x0, hx0⟩ : ∃ x0, x0 = l'.any (srcP q1 q2 q4) := ⟨_, rfl⟩
      obtain ⟨R0, hR0⟩ : ∃ R0, R0 = firstR 151587081 (srcP q1 q2 q4) l' := ⟨_, rfl⟩
      have cs := h_Source (l := l') q1 q2 q3 q4 q5 (fun r hr => GL.out.ok r hr) Q2.out Q4.out (by have := GL.out.len; omega) w7 H7.out
      rw [← hx0, ← hR0] at cs
      unfold Rule.cells at cs
      have CS := hide cs; have HX := hide hx0; have HR0 := hide hR0
      clear cs hx0 hR0
      have xd7_0 : w7.cell? ⟨g7, 0, none⟩ = some (.int .u8 q1) := d7.at_ 0
      have xd7_1 : w7.cell? ⟨g7, 1, none⟩ = some (.int .u32 q2) := d7.at_ 1
      have xd7_2 : w7.cell? ⟨g7, 2, none⟩ = some (.int .u16 q3) := d7.at_ 2
      have xd7_3 : w7.cell? ⟨g7, 3, none⟩ = some (.int .u32 q4) := d7.at_ 3
      have xd7_4 : w7.cell? ⟨g7, 4, none⟩ = some (.int .u16 q5) := d7.at_ 4
      go_upto_region 9 with (go_at_call 23; (with_reducible refine (CS.out).mono ?_); rintro e2 w8 ⟨rfl, b8⟩)
      clear xd7_0 xd7_1 xd7_2 xd7_3 xd7_4
      have nn := Cells.new w8 #[.int .i64 R0.k, .int .u8 R0.p, .int .u32 R0.sa, .int .i64 R0.sb, .int .u32 R0.da, .int .i64 R0.db, .int .u32 R0.e, .int .u16 R0.f, .int .u16 R0.t, .int .u32 R0.ia, .int .u16 R0.ip] 30
      have bn : Below w7.heap.size w7 (w8.alloc (.cells #[.int .i64 R0.k, .int .u8 R0.p, .int .u32 R0.sa, .int .i64 R0.sb, .int .u32 R0.da, .int .i64 R0.db, .int .u32 R0.e, .int .u16 R0.f, .int .u16 R0.t, .int .u32 R0.ia, .int .u16 R0.ip] 30)) := bstep b8 (fresh_below _ _)
      generalize w8.heap.size = g9 at nn ⊢
      generalize (w8.alloc (.cells #[.int .i64 R0.k, .int .u8 R0.p, .int .u32 R0.sa, .int .i64 R0.sb, .int .u32 R0.da, .int .i64 R0.db, .int .u32 R0.e, .int .u16 R0.f, .int .u16 R0.t, .int .u32 R0.ia, .int .u16 R0.ip] 30)) = w9 at *
      have H9 := hide (Held.below H7.out bn)
      have R9 := hide (RR.below R7.out bn)
      have D9 := hide nn
      have D7' := hide (Cells.below bn d7)
      clear nn bn b8 d7 H7 R7 CS
      go_wp2_with fail
      go_loopg [11, 12, 13] (m' + 1) (fun gi s11 s12 _ wr => ∃ kk : Nat, kk ≤ m' ∧ m' - kk + 1 ≤ gi ∧ s12 = .int .i64 kk ∧ Seek (srcP q1 q2 q4) l' kk s11 ∧ Aside (Below w9.heap.size w9 wr))
      case atStart => exact ⟨0, Nat.zero_le _, by omega, rfl, Or.inl ⟨rfl, (fun j _ h => by omega)⟩, Below.refl _ _⟩
      case round =>
        obtain ⟨kk, hkk, hg2, rfl, hs, BX⟩ := hrel
        rcases hs with ⟨rfl, NF⟩ | ⟨j, r, rfl, hj, FD⟩
        · by_cases hlt : kk < m'
          · have hltz : (kk : Int) < (m' : Int) := by omega
            have hl : kk < l'.length := by have := ML.out; omega
            obtain ⟨r, hr⟩ : ∃ r, l'[kk]? = some r := ⟨_, List.getElem?_eq_getElem hl⟩
            have hrl : r ∈ l' := List.mem_of_getElem? hr
            have rm := RR.below R9.out BX.out
            obtain ⟨g1, hg1⟩ := slice_some rm (by omega)
            cases hg1
            have z0 : ∀ W', Below wr.heap.size wr W' → World.cell? W' ⟨g1, kk * 11, none⟩ = some (.int .i64 r.k) := fun W' hW => RR.slot (i := 0) (RR.below rm hW) hl hr (by omega) rfl
            have z1 : ∀ W', Below wr.heap.size wr W' → World.cell? W' ⟨g1, kk * 11 + 1, none⟩ = some (.int .u8 r.p) := fun W' hW => RR.slot (i := 1) (RR.below rm hW) hl hr (by omega) rfl
            have z2 : ∀ W', Below wr.heap.size wr W' → World.cell? W' ⟨g1, kk * 11 + 2, none⟩ = some (.int .u32 r.sa) := fun W' hW => RR.slot (i := 2) (RR.below rm hW) hl hr (by omega) rfl
            have z3 : ∀ W', Below wr.heap.size wr W' → World.cell? W' ⟨g1, kk * 11 + 3, none⟩ = some (.int .i64 r.sb) := fun W' hW => RR.slot (i := 3) (RR.below rm hW) hl hr (by omega) rfl
            have z4 : ∀ W', Below wr.heap.size wr W' → World.cell? W' ⟨g1, kk * 11 + 4, none⟩ = some (.int .u32 r.da) := fun W' hW => RR.slot (i := 4) (RR.below rm hW) hl hr (by omega) rfl
            have z5 : ∀ W', Below wr.heap.size wr W' → World.cell? W' ⟨g1, kk * 11 + 5, none⟩ = some (.int .i64 r.db) := fun W' hW => RR.slot (i := 5) (RR.below rm hW) hl hr (by omega) rfl
            have z6 : ∀ W', Below wr.heap.size wr W' → World.cell? W' ⟨g1, kk * 11 + 6, none⟩ = some (.int .u32 r.e) := fun W' hW => RR.slot (i := 6) (RR.below rm hW) hl hr (by omega) rfl
            have z7 : ∀ W', Below wr.heap.size wr W' → World.cell? W' ⟨g1, kk * 11 + 7, none⟩ = some (.int .u16 r.f) := fun W' hW => RR.slot (i := 7) (RR.below rm hW) hl hr (by omega) rfl
            have z8 : ∀ W', Below wr.heap.size wr W' → World.cell? W' ⟨g1, kk * 11 + 8, none⟩ = some (.int .u16 r.t) := fun W' hW => RR.slot (i := 8) (RR.below rm hW) hl hr (by omega) rfl
            have z9 : ∀ W', Below wr.heap.size wr W' → World.cell? W' ⟨g1, kk * 11 + 9, none⟩ = some (.int .u32 r.ia) := fun W' hW => RR.slot (i := 9) (RR.below rm hW) hl hr (by omega) rfl
            have z10 : ∀ W', Below wr.heap.size wr W' → World.cell? W' ⟨g1, kk * 11 + 10, none⟩ = some (.int .u16 r.ip) := fun W' hW => RR.slot (i := 10) (RR.below rm hW) hl hr (by omega) rfl
            have BX' := hide BX; have HR := hide hr; have HRL := hide hrl; have HL := hide hl
            have RM := hide rm
            clear rm hr hrl hl BX
            have bb : Below wr.heap.size wr wr := Below.refl _ _
            go_upto_region 14 with fail
            have nn := Cells.new wr #[.int .i64 r.k, .int .u8 r.p, .int .u32 r.sa, .int .i64 r.sb, .int .u32 r.da, .int .i64 r.db, .int .u32 r.e, .int .u16 r.f, .int .u16 r.t, .int .u32 r.ia, .int .u16 r.ip] 30
            have bn := fresh_below wr (.cells #[.int .i64 r.k, .int .u8 r.p, .int .u32 r.sa, .int .i64 r.sb, .int .u32 r.da, .int .i64 r.db, .int .u32 r.e, .int .u16 r.f, .int .u16 r.t, .int .u32 r.ia, .int .u16 r.ip] 30)
            have d7 := Cells.below bn (Cells.below BX'.out.out D7'.out)
            clear z0 z1 z2 z3 z4 z5 z6 z7 z8 z9 z10 bb RM
            replace BX' := hide (bstep BX'.out.out bn)
            generalize wr.heap.size = g13 at nn ⊢
            generalize (wr.alloc (.cells #[.int .i64 r.k, .int .u8 r.p, .int .u32 r.sa, .int .i64 r.sb, .int .u32 r.da, .int .i64 r.db, .int .u32 r.e, .int .u16 r.f, .int .u16 r.t, .int .u32 r.ia, .int .u16 r.ip] 30)) = wy at *
            have qd7_0 : ∀ W', Below wy.heap.size wy W' → World.cell? W' ⟨g7, 0, none⟩ = some (.int .u8 q1) := fun W' h => Cells.at_ (Cells.below h d7) 0
            have qd7_1 : ∀ W', Below wy.heap.size wy W' → World.cell? W' ⟨g7, 1, none⟩ = some (.int .u32 q2) := fun W' h => Cells.at_ (Cells.below h d7) 1
            have qd7_2 : ∀ W', Below wy.heap.size wy W' → World.cell? W' ⟨g7, 2, none⟩ = some (.int .u16 q3) := fun W' h => Cells.at_ (Cells.below h d7) 2
            have qd7_3 : ∀ W', Below wy.heap.size wy W' → World.cell? W' ⟨g7, 3, none⟩ = some (.int .u32 q4) := fun W' h => Cells.at_ (Cells.below h d7) 3
            have qd7_4 : ∀ W', Below wy.heap.size wy W' → World.cell? W' ⟨g7, 4, none⟩ = some (.int .u16 q5) := fun W' h => Cells.at_ (Cells.below h d7) 4
            have qnn_0 : ∀ W', Below wy.heap.size wy W' → World.cell? W' ⟨g13, 0, none⟩ = some (.int .i64 r.k) := fun W' h => Cells.at_ (Cells.below h nn) 0
            have qnn_1 : ∀ W', Below wy.heap.size wy W' → World.cell? W' ⟨g13, 1, none⟩ = some (.int .u8 r.p) := fun W' h => Cells.at_ (Cells.below h nn) 1
            have qnn_2 : ∀ W', Below wy.heap.size wy W' → World.cell? W' ⟨g13, 2, none⟩ = some (.int .u32 r.sa) := fun W' h => Cells.at_ (Cells.below h nn) 2
            have qnn_3 : ∀ W', Below wy.heap.size wy W' → World.cell? W' ⟨g13, 3, none⟩ = some (.int .i64 r.sb) := fun W' h => Cells.at_ (Cells.below h nn) 3
            have qnn_4 : ∀ W', Below wy.heap.size wy W' → World.cell? W' ⟨g13, 4, none⟩ = some (.int .u32 r.da) := fun W' h => Cells.at_ (Cells.below h nn) 4
            have qnn_5 : ∀ W', Below wy.heap.size wy W' → World.cell? W' ⟨g13, 5, none⟩ = some (.int .i64 r.db) := fun W' h => Cells.at_ (Cells.below h nn) 5
            have qnn_6 : ∀ W', Below wy.heap.size wy W' → World.cell? W' ⟨g13, 6, none⟩ = some (.int .u32 r.e) := fun W' h => Cells.at_ (Cells.below h nn) 6
            have qnn_7 : ∀ W', Below wy.heap.size wy W' → World.cell? W' ⟨g13, 7, none⟩ = some (.int .u16 r.f) := fun W' h => Cells.at_ (Cells.below h nn) 7
            have qnn_8 : ∀ W', Below wy.heap.size wy W' → World.cell? W' ⟨g13, 8, none⟩ = some (.int .u16 r.t) := fun W' h => Cells.at_ (Cells.below h nn) 8
            have qnn_9 : ∀ W', Below wy.heap.size wy W' → World.cell? W' ⟨g13, 9, none⟩ = some (.int .u32 r.ia) := fun W' h => Cells.at_ (Cells.below h nn) 9
            have qnn_10 : ∀ W', Below wy.heap.size wy W' → World.cell? W' ⟨g13, 10, none⟩ = some (.int .u16 r.ip) := fun W' h => Cells.at_ (Cells.below h nn) 10
            clear nn d7 bn
            have bb : Below wy.heap.size wy wy := Below.refl _ _
            obtain ⟨ok, hok⟩ : ∃ ok, ok = srcP q1 q2 q4 r := ⟨_, rfl⟩
            have hcase : ((r.k != 3) = false ∧ ok = false) ∨ ((r.k != 3) = true ∧ (r.p == 0) = true ∧ ok = (hasP r.sa r.sb q2 && hasP r.da r.db q4)) ∨ ((r.k != 3) = true ∧ (r.p == 0) = false ∧ (r.p == q1) = true ∧ ok = (hasP r.sa r.sb q2 && hasP r.da r.db q4)) ∨ ((r.k != 3) = true ∧ (r.p == 0) = false ∧ (r.p == q1) = false ∧ ok = false) := by
              rw [hok]
              unfold srcP
              by_cases hk : r.k = 3
              · exact Or.inl ⟨by simp [hk], by simp [hk]⟩
              · by_cases hp : r.p = 0
                · exact Or.inr (Or.inl ⟨by simp [hk], by simp [hp], by simp [hk, hp]⟩)
                · by_cases hq : r.p = q1
                  · exact Or.inr (Or.inr (Or.inl ⟨by simp [hk], by simp [hp], by simp [hq], by simp [hk, hp, hq]⟩))
                  · exact Or.inr (Or.inr (Or.inr ⟨by simp [hk], by simp [hp], by simp [hq], by simp [hk, hp, hq]⟩))
            have c1 : (r.k != 3) = true → ∀ W, _ := fun hk W => l_in r.sa r.sb q2 W (GL.out.ok r HRL.out).2.1 Q2.out (srcP_may GL.out HRL.out (by simpa using hk)).1
            have c2 : (r.k != 3) = true → ∀ W, _ := fun hk W => l_in r.da r.db q4 W (GL.out.ok r HRL.out).2.2.1 Q4.out (srcP_may GL.out HRL.out (by simpa using hk)).2
            have C1 := hide c1; have C2 := hide c2; have HOK := hide hok
            clear c1 c2 hok
            rcases hcase with ⟨k1, rfl⟩ | ⟨k1, k2, k3⟩ | ⟨k1, k2, k2', k3⟩ | ⟨k1, k2, k2', rfl⟩
            · clear C1 C2
              go_wp2_with fail
              go_roundg (m' - (kk + 1) + 1)
              case measure => omega
              case rel =>
                exact ⟨kk + 1, by omega, by omega, by go_num, Or.inl ⟨rfl, (fun j h hj => by
                  by_cases hjk : j = kk
                  · subst hjk
                    have := (List.getElem?_eq_some_iff.1 HR.out).2
                    rw [this]; exact HOK.out.symm
                  · exact NF.out j h (by omega))⟩, (show Aside _ from bstep BX'.out (by assumption))⟩
            · have C1' := hide (C1.out k1); have C2' := hide (C2.out k1)
              generalize hasP r.sa r.sb q2 = y1 at *
              generalize hasP r.da r.db q4 = y2 at *
              clear C1 C2
              cases y1
              · subst k3
                go_wp2_with ((go_at_call 24; (with_reducible refine (C1'.out _).mono ?_); rintro e2 w2 ⟨rfl, b2⟩; have b2' := bstep (by assumption : Below wy.heap.size wy _) b2; clear b2))
                go_roundg (m' - (kk + 1) + 1)
                case measure => omega
                case rel =>
                  exact ⟨kk + 1, by omega, by omega, by go_num, Or.inl ⟨rfl, (fun j h hj => by
                    by_cases hjk : j = kk
                    · subst hjk
                      have := (List.getElem?_eq_some_iff.1 HR.out).2
                      rw [this]; exact HOK.out.symm
                    · exact NF.out j h (by omega))⟩, (show Aside _ from bstep BX'.out (by assumption))⟩
              · cases y2
                · subst k3
                  go_wp2_with (first | (go_at_call 24; (with_reducible refine (C1'.out _).mono ?_); rintro e2 w2 ⟨rfl, b2⟩; have b2' := bstep (by assumption : Below wy.heap.size wy _) b2; clear b2) | (go_at_call 24; (with_reducible refine (C2'.out _).mono ?_); rintro e2 w2 ⟨rfl, b2⟩; have b2' := bstep (by assumption : Below wy.heap.size wy _) b2; clear b2))
                  go_roundg (m' - (kk + 1) + 1)
                  case measure => omega
                  case rel =>
                    exact ⟨kk + 1, by omega, by omega, by go_num, Or.inl ⟨rfl, (fun j h hj => by
                      by_cases hjk : j = kk
                      · subst hjk
                        have := (List.getElem?_eq_some_iff.1 HR.out).2
                        rw [this]; exact HOK.out.symm
                      · exact NF.out j h (by omega))⟩, (show Aside _ from bstep BX'.out (by assumption))⟩
                · subst k3
                  go_wp2_with (first | (go_at_call 24; (with_reducible refine (C1'.out _).mono ?_); rintro e2 w2 ⟨rfl, b2⟩; have b2' := bstep (by assumption : Below wy.heap.size wy _) b2; clear b2) | (go_at_call 24; (with_reducible refine (C2'.out _).mono ?_); rintro e2 w2 ⟨rfl, b2⟩; have b2' := bstep (by assumption : Below wy.heap.size wy _) b2; clear b2))
                  go_roundg (m' - (kk + 1) + 1)
                  case measure => omega
                  case rel =>
                    exact ⟨kk + 1, by omega, by omega, by go_num, Or.inr ⟨kk, r, rfl, HL.out, (show Aside _ from ⟨HR.out, find_at NF.out HR.out HOK.out.symm⟩)⟩, (show Aside _ from bstep BX'.out (by assumption))⟩
            · have C1' := hide (C1.out k1); have C2' := hide (C2.out k1)
              generalize hasP r.sa r.sb q2 = y1 at *
              generalize hasP r.da r.db q4 = y2 at *
              clear C1 C2
              cases y1
              · subst k3
                go_wp2_with ((go_at_call 24; (with_reducible refine (C1'.out _).mono ?_); rintro e2 w2 ⟨rfl, b2⟩; have b2' := bstep (by assumption : Below wy.heap.size wy _) b2; clear b2))
                go_roundg (m' - (kk + 1) + 1)
                case measure => omega
                case rel =>
                  exact ⟨kk + 1, by omega, by omega, by go_num, Or.inl ⟨rfl, (fun j h hj => by
                    by_cases hjk : j = kk
                    · subst hjk
                      have := (List.getElem?_eq_some_iff.1 HR.out).2
                      rw [this]; exact HOK.out.symm
                    · exact NF.out j h (by omega))⟩, (show Aside _ from bstep BX'.out (by assumption))⟩
              · cases y2
                · subst k3
                  go_wp2_with (first | (go_at_call 24; (with_reducible refine (C1'.out _).mono ?_); rintro e2 w2 ⟨rfl, b2⟩; have b2' := bstep (by assumption : Below wy.heap.size wy _) b2; clear b2) | (go_at_call 24; (with_reducible refine (C2'.out _).mono ?_); rintro e2 w2 ⟨rfl, b2⟩; have b2' := bstep (by assumption : Below wy.heap.size wy _) b2; clear b2))
                  go_roundg (m' - (kk + 1) + 1)
                  case measure => omega
                  case rel =>
                    exact ⟨kk + 1, by omega, by omega, by go_num, Or.inl ⟨rfl, (fun j h hj => by
                      by_cases hjk : j = kk
                      · subst hjk
                        have := (List.getElem?_eq_some_iff.1 HR.out).2
                        rw [this]; exact HOK.out.symm
                      · exact NF.out j h (by omega))⟩, (show Aside _ from bstep BX'.out (by assumption))⟩
                · subst k3
                  go_wp2_with (first | (go_at_call 24; (with_reducible refine (C1'.out _).mono ?_); rintro e2 w2 ⟨rfl, b2⟩; have b2' := bstep (by assumption : Below wy.heap.size wy _) b2; clear b2) | (go_at_call 24; (with_reducible refine (C2'.out _).mono ?_); rintro e2 w2 ⟨rfl, b2⟩; have b2' := bstep (by assumption : Below wy.heap.size wy _) b2; clear b2))
                  go_roundg (m' - (kk + 1) + 1)
                  case measure => omega
                  case rel =>
                    exact ⟨kk + 1, by omega, by omega, by go_num, Or.inr ⟨kk, r, rfl, HL.out, (show Aside _ from ⟨HR.out, find_at NF.out HR.out HOK.out.symm⟩)⟩, (show Aside _ from bstep BX'.out (by assumption))⟩
            · clear C1 C2
              go_wp2_with fail
              go_roundg (m' - (kk + 1) + 1)
              case measure => omega
              case rel =>
                exact ⟨kk + 1, by omega, by omega, by go_num, Or.inl ⟨rfl, (fun j h hj => by
                  by_cases hjk : j = kk
                  · subst hjk
                    have := (List.getElem?_eq_some_iff.1 HR.out).2
                    rw [this]; exact HOK.out.symm
                  · exact NF.out j h (by omega))⟩, (show Aside _ from bstep BX'.out (by assumption))⟩
          · have hltz : ¬ (kk : Int) < (m' : Int) := by omega
            have hfn := find_no NF.out (k := kk) (by have := ML.out; omega)
            have hX := HX.out; have hR0 := HR0.out
            rw [hfn.2] at hX
            have hR1 : R0 = zeroR := by rw [hR0]; unfold firstR; rw [hfn.1]
            subst hX; subst hR1
            have BX' := hide BX
            have d9 := Cells.below BX'.out.out D9.out
            clear hR0 hfn BX
            have HF := hide (Held.below H9.out BX'.out.out)
            have qd9_0 : ∀ W', Below wr.heap.size wr W' → World.cell? W' ⟨g9, 0, none⟩ = some (.int .i64 0) := fun W' h => Cells.at_ (Cells.below h d9) 0
            have qd9_1 : ∀ W', Below wr.heap.size wr W' → World.cell? W' ⟨g9, 1, none⟩ = some (.int .u8 0) := fun W' h => Cells.at_ (Cells.below h d9) 1
            have qd9_2 : ∀ W', Below wr.heap.size wr W' → World.cell? W' ⟨g9, 2, none⟩ = some (.int .u32 0) := fun W' h => Cells.at_ (Cells.below h d9) 2
            have qd9_3 : ∀ W', Below wr.heap.size wr W' → World.cell? W' ⟨g9, 3, none⟩ = some (.int .i64 0) := fun W' h => Cells.at_ (Cells.below h d9) 3
            have qd9_4 : ∀ W', Below wr.heap.size wr W' → World.cell? W' ⟨g9, 4, none⟩ = some (.int .u32 0) := fun W' h => Cells.at_ (Cells.below h d9) 4
            have qd9_5 : ∀ W', Below wr.heap.size wr W' → World.cell? W' ⟨g9, 5, none⟩ = some (.int .i64 0) := fun W' h => Cells.at_ (Cells.below h d9) 5
            have qd9_6 : ∀ W', Below wr.heap.size wr W' → World.cell? W' ⟨g9, 6, none⟩ = some (.int .u32 0) := fun W' h => Cells.at_ (Cells.below h d9) 6
            have qd9_7 : ∀ W', Below wr.heap.size wr W' → World.cell? W' ⟨g9, 7, none⟩ = some (.int .u16 0) := fun W' h => Cells.at_ (Cells.below h d9) 7
            have qd9_8 : ∀ W', Below wr.heap.size wr W' → World.cell? W' ⟨g9, 8, none⟩ = some (.int .u16 0) := fun W' h => Cells.at_ (Cells.below h d9) 8
            have qd9_9 : ∀ W', Below wr.heap.size wr W' → World.cell? W' ⟨g9, 9, none⟩ = some (.int .u32 0) := fun W' h => Cells.at_ (Cells.below h d9) 9
            have qd9_10 : ∀ W', Below wr.heap.size wr W' → World.cell? W' ⟨g9, 10, none⟩ = some (.int .u16 0) := fun W' h => Cells.at_ (Cells.below h d9) 10
            clear d9
            have bb : Below wr.heap.size wr wr := Below.refl _ _
            go_wp2_with ((go_at_call 11; (with_reducible refine (CR.out _).mono ?_); rintro e2 w2 ⟨rfl, b2⟩; have b2' := bstep (by assumption : Below wr.heap.size wr _) b2; clear b2))
            go_ret
            have hh := Held.below HF.out (by assumption : Below wr.heap.size wr _)
            exact ⟨rfl, L6.out.trans (hh.only.below (fun k hk => by rcases hk with e | e; (rw [e]; exact HBW.out.1); exact HBW.out.2 _ e) L6.out.size)⟩
        · have hjz : ¬ ((j : Int) < 0) := by omega
          obtain ⟨hr, hf⟩ := FD.out
          have hX := HX.out
          rw [find_any hf] at hX
          subst hX
          have hR1 : R0 = wholeR 151587081 r := by rw [HR0.out]; unfold firstR; rw [hf]
          have rm := RR.below R9.out BX.out
          obtain ⟨g1, hg1⟩ := slice_some rm (by omega)
          cases hg1
          obtain ⟨re, hre⟩ : ∃ re, re = (wholeR 151587081 r).e := ⟨_, rfl⟩
          have co := fun W => l_outer W r
          rw [← hre] at co
          unfold Rule.cells at co
          have d9 := (Cells.below BX.out D9.out).as (cs' := #[.int .i64 r.k, .int .u8 r.p, .int .u32 r.sa, .int .i64 r.sb, .int .u32 r.da, .int .i64 r.db, .int .u32 re, .int .u16 r.f, .int .u16 r.t, .int .u32 r.ia, .int .u16 r.ip]) (by rw [hR1, hre]; unfold wholeR; split <;> rfl)
          obtain ⟨m2, hm2⟩ : ∃ m2, m' = m2 + 1 := ⟨m' - 1, by have := ML.out; omega⟩
          subst hm2
          have hjm : j < m2 + 1 := by have := ML.out; omega
          have hjz2 : (j : Int) < (m2 : Int) + 1 := by omega
          have hj0 : 0 ≤ (j : Int) := by omega
          have hdc : delC l' j = 0 := by unfold delC; rw [if_neg (by omega)]
          have hdl : (delL l' j).length = m2 := by unfold delL; rw [if_neg (by omega)]; have := ML.out; simp; omega
          have hjl := hj
          have z0 : ∀ W', Below wr.heap.size wr W' → World.cell? W' ⟨g1, j * 11, none⟩ = some (.int .i64 r.k) := fun W' hW => RR.slot (i := 0) (RR.below rm hW) hjl hr (by omega) rfl
          have z1 : ∀ W', Below wr.heap.size wr W' → World.cell? W' ⟨g1, j * 11 + 1, none⟩ = some (.int .u8 r.p) := fun W' hW => RR.slot (i := 1) (RR.below rm hW) hjl hr (by omega) rfl
          have z2 : ∀ W', Below wr.heap.size wr W' → World.cell? W' ⟨g1, j * 11 + 2, none⟩ = some (.int .u32 r.sa) := fun W' hW => RR.slot (i := 2) (RR.below rm hW) hjl hr (by omega) rfl
          have z3 : ∀ W', Below wr.heap.size wr W' → World.cell? W' ⟨g1, j * 11 + 3, none⟩ = some (.int .i64 r.sb) := fun W' hW => RR.slot (i := 3) (RR.below rm hW) hjl hr (by omega) rfl
          have z4 : ∀ W', Below wr.heap.size wr W' → World.cell? W' ⟨g1, j * 11 + 4, none⟩ = some (.int .u32 r.da) := fun W' hW => RR.slot (i := 4) (RR.below rm hW) hjl hr (by omega) rfl
          have z5 : ∀ W', Below wr.heap.size wr W' → World.cell? W' ⟨g1, j * 11 + 5, none⟩ = some (.int .i64 r.db) := fun W' hW => RR.slot (i := 5) (RR.below rm hW) hjl hr (by omega) rfl
          have z6 : ∀ W', Below wr.heap.size wr W' → World.cell? W' ⟨g1, j * 11 + 6, none⟩ = some (.int .u32 r.e) := fun W' hW => RR.slot (i := 6) (RR.below rm hW) hjl hr (by omega) rfl
          have z7 : ∀ W', Below wr.heap.size wr W' → World.cell? W' ⟨g1, j * 11 + 7, none⟩ = some (.int .u16 r.f) := fun W' hW => RR.slot (i := 7) (RR.below rm hW) hjl hr (by omega) rfl
          have z8 : ∀ W', Below wr.heap.size wr W' → World.cell? W' ⟨g1, j * 11 + 8, none⟩ = some (.int .u16 r.t) := fun W' hW => RR.slot (i := 8) (RR.below rm hW) hjl hr (by omega) rfl
          have z9 : ∀ W', Below wr.heap.size wr W' → World.cell? W' ⟨g1, j * 11 + 9, none⟩ = some (.int .u32 r.ia) := fun W' hW => RR.slot (i := 9) (RR.below rm hW) hjl hr (by omega) rfl
          have z10 : ∀ W', Below wr.heap.size wr W' → World.cell? W' ⟨g1, j * 11 + 10, none⟩ = some (.int .u16 r.ip) := fun W' hW => RR.slot (i := 10) (RR.below rm hW) hjl hr (by omega) rfl
          have BX' := hide BX; have CO := hide co
          have H8 := hide (Held.below H9.out BX.out)
          have RM := hide rm
          clear rm hR1 hre co BX hr hf FD
          have bb : Below wr.heap.size wr wr := Below.refl _ _
          go_upto_region 19 with fail
          all_goals
            have nn := Cells.new wr #[.int .i64 r.k, .int .u8 r.p, .int .u32 r.sa, .int .i64 r.sb, .int .u32 r.da, .int .i64 r.db, .int .u32 r.e, .int .u16 r.f, .int .u16 r.t, .int .u32 r.ia, .int .u16 r.ip] 30
            have bn := fresh_below wr (.cells #[.int .i64 r.k, .int .u8 r.p, .int .u32 r.sa, .int .i64 r.sb, .int .u32 r.da, .int .i64 r.db, .int .u32 r.e, .int .u16 r.f, .int .u16 r.t, .int .u32 r.ia, .int .u16 r.ip] 30)
            clear z0 z1 z2 z3 z4 z5 z6 z7 z8 z9 z10 bb RM
            obtain ⟨g14, hg14⟩ : ∃ g14, g14 = wr.heap.size := ⟨_, rfl⟩
            rw [← hg14] at nn ⊢
            generalize (wr.alloc (.cells #[.int .i64 r.k, .int .u8 r.p, .int .u32 r.sa, .int .i64 r.sb, .int .u32 r.da, .int .i64 r.db, .int .u32 r.e, .int .u16 r.f, .int .u16 r.t, .int .u32 r.ia, .int .u16 r.ip] 30)) = wy at *
            have HG14 := hide (show wr.heap.size ≤ g14 by omega)
            have D9' := hide d9; have N14 := hide nn; have BN := hide bn
            have qnn_0 : ∀ W', Below wy.heap.size wy W' → World.cell? W' ⟨g14, 0, none⟩ = some (.int .i64 r.k) := fun W' h => Cells.at_ (Cells.below h nn) 0
            have qnn_1 : ∀ W', Below wy.heap.size wy W' → World.cell? W' ⟨g14, 1, none⟩ = some (.int .u8 r.p) := fun W' h => Cells.at_ (Cells.below h nn) 1
            have qnn_2 : ∀ W', Below wy.heap.size wy W' → World.cell? W' ⟨g14, 2, none⟩ = some (.int .u32 r.sa) := fun W' h => Cells.at_ (Cells.below h nn) 2
            have qnn_3 : ∀ W', Below wy.heap.size wy W' → World.cell? W' ⟨g14, 3, none⟩ = some (.int .i64 r.sb) := fun W' h => Cells.at_ (Cells.below h nn) 3
            have qnn_4 : ∀ W', Below wy.heap.size wy W' → World.cell? W' ⟨g14, 4, none⟩ = some (.int .u32 r.da) := fun W' h => Cells.at_ (Cells.below h nn) 4
            have qnn_5 : ∀ W', Below wy.heap.size wy W' → World.cell? W' ⟨g14, 5, none⟩ = some (.int .i64 r.db) := fun W' h => Cells.at_ (Cells.below h nn) 5
            have qnn_6 : ∀ W', Below wy.heap.size wy W' → World.cell? W' ⟨g14, 6, none⟩ = some (.int .u32 r.e) := fun W' h => Cells.at_ (Cells.below h nn) 6
            have qnn_7 : ∀ W', Below wy.heap.size wy W' → World.cell? W' ⟨g14, 7, none⟩ = some (.int .u16 r.f) := fun W' h => Cells.at_ (Cells.below h nn) 7
            have qnn_8 : ∀ W', Below wy.heap.size wy W' → World.cell? W' ⟨g14, 8, none⟩ = some (.int .u16 r.t) := fun W' h => Cells.at_ (Cells.below h nn) 8
            have qnn_9 : ∀ W', Below wy.heap.size wy W' → World.cell? W' ⟨g14, 9, none⟩ = some (.int .u32 r.ia) := fun W' h => Cells.at_ (Cells.below h nn) 9
            have qnn_10 : ∀ W', Below wy.heap.size wy W' → World.cell? W' ⟨g14, 10, none⟩ = some (.int .u16 r.ip) := fun W' h => Cells.at_ (Cells.below h nn) 10
            have fz : ∀ W' i, Below wy.heap.size wy W' → World.frozen? W' ⟨g14, i, none⟩ = false := fun W' i h => (Cells.below h nn).free i
            have bb : Below wy.heap.size wy wy := Below.refl _ _
            clear d9 nn bn hg14
            go_upto_region 20 with (go_at_call 25; (with_reducible refine (CO.out _).mono ?_); rintro e2 w2 ⟨rfl, b2⟩; have b2' := bstep (by assumption : Below wy.heap.size wy _) b2; clear b2)
            have bs : Below wr.heap.size wr (w2.setCell ⟨g14, 6, none⟩ (.int .u32 re)) := Below.setCell (bstep BN.out (by assumption)) HG14.out _
            have d14 := ((Cells.below (by assumption : Below wy.heap.size wy w2) N14.out).set_ 6 (.int .u32 re)).as (cs' := #[.int .i64 r.k, .int .u8 r.p, .int .u32 r.sa, .int .i64 r.sb, .int .u32 r.da, .int .i64 r.db, .int .u32 re, .int .u16 r.f, .int .u16 r.t, .int .u32 r.ia, .int .u16 r.ip]) (by simp)
            have H8' := hide (Held.below H8.out bs)
            have d9 := Cells.below bs D9'.out
            clear qnn_0 qnn_1 qnn_2 qnn_3 qnn_4 qnn_5 qnn_6 qnn_7 qnn_8 qnn_9 qnn_10 fz bb b2' bs D9' N14 BN HG14 H8 CO
            generalize (w2.setCell ⟨g14, 6, none⟩ (.int .u32 re)) = wz at *
            have xd9_0 : wz.cell? ⟨g9, 0, none⟩ = some (.int .i64 r.k) := d9.at_ 0
            have xd9_1 : wz.cell? ⟨g9, 1, none⟩ = some (.int .u8 r.p) := d9.at_ 1
            have xd9_2 : wz.cell? ⟨g9, 2, none⟩ = some (.int .u32 r.sa) := d9.at_ 2
            have xd9_3 : wz.cell? ⟨g9, 3, none⟩ = some (.int .i64 r.sb) := d9.at_ 3
            have xd9_4 : wz.cell? ⟨g9, 4, none⟩ = some (.int .u32 r.da) := d9.at_ 4
            have xd9_5 : wz.cell? ⟨g9, 5, none⟩ = some (.int .i64 r.db) := d9.at_ 5
            have xd9_6 : wz.cell? ⟨g9, 6, none⟩ = some (.int .u32 re) := d9.at_ 6
            have xd9_7 : wz.cell? ⟨g9, 7, none⟩ = some (.int .u16 r.f) := d9.at_ 7
            have xd9_8 : wz.cell? ⟨g9, 8, none⟩ = some (.int .u16 r.t) := d9.at_ 8
            have xd9_9 : wz.cell? ⟨g9, 9, none⟩ = some (.int .u32 r.ia) := d9.at_ 9
            have xd9_10 : wz.cell? ⟨g9, 10, none⟩ = some (.int .u16 r.ip) := d9.at_ 10
            have xd14_0 : wz.cell? ⟨g14, 0, none⟩ = some (.int .i64 r.k) := d14.at_ 0
            have xd14_1 : wz.cell? ⟨g14, 1, none⟩ = some (.int .u8 r.p) := d14.at_ 1
            have xd14_2 : wz.cell? ⟨g14, 2, none⟩ = some (.int .u32 r.sa) := d14.at_ 2
            have xd14_3 : wz.cell? ⟨g14, 3, none⟩ = some (.int .i64 r.sb) := d14.at_ 3
            have xd14_4 : wz.cell? ⟨g14, 4, none⟩ = some (.int .u32 r.da) := d14.at_ 4
            have xd14_5 : wz.cell? ⟨g14, 5, none⟩ = some (.int .i64 r.db) := d14.at_ 5
            have xd14_6 : wz.cell? ⟨g14, 6, none⟩ = some (.int .u32 re) := d14.at_ 6
            have xd14_7 : wz.cell? ⟨g14, 7, none⟩ = some (.int .u16 r.f) := d14.at_ 7
            have xd14_8 : wz.cell? ⟨g14, 8, none⟩ = some (.int .u16 r.t) := d14.at_ 8
            have xd14_9 : wz.cell? ⟨g14, 9, none⟩ = some (.int .u32 r.ia) := d14.at_ 9
            have xd14_10 : wz.cell? ⟨g14, 10, none⟩ = some (.int .u16 r.ip) := d14.at_ 10
            have cd := h_Delete (l := l') (j : Int) (by have := ML.out; omega) wz H8'.out
            rw [hdc] at cd
            have CDEL := hide cd
            have CLL := hide (fun W (h : Held w6 v0 B 151587081 167772160 8 (delL l' j) W) => h_ListLen m2 hdl.symm (by omega) W h)
            have HDL := hide hdl
            clear cd d9 d14 hdc hdl H8'
            have hsub : ((m2 : Int) + 1) - 1 = (m2 : Int) := by omega
            have hmw : IntKind.i64.wrap (m2 : Int) = (m2 : Int) := IntWalk.i64_in _ (by omega)
            go_wp2_with (first | (go_at_call 26; (refine (CDEL.out).mono ?_); rintro e w4 ⟨rfl, h4⟩; have H4 := hide h4; clear h4) | (go_at_call 22; (refine (CLL.out _ H4.out).mono ?_); rintro e w5 ⟨A5, c5, rfl, b5⟩; have B5 := hide b5; clear b5))
            go_roundg m2
            case measure => omega
            case rel => exact ⟨delL l' j, by have := HDL.out; omega, (show Aside _ from ⟨GL.out.del _, Held.below H4.out B5.out⟩)⟩

end Go.Proofs.Ytbboajhdijabbaa
