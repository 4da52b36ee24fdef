/- Several texts of this claim, one behind the other. -/
import Derived.Test.YtilfcikhipadpaaDoorM28
import Derived.Test.YtilfcikhipadpaaDoorM18
import Derived.Test.YtilfcikhipadpaaDoorM19
import Derived.ProofKit
import Derived.LaidMore
import Derived.OpenShut
import Derived.Stop.Joined
import Derived.MakeChecks

section
/- BindsMake: the walk. -/
set_option linter.unusedVariables false
set_option linter.unusedSimpArgs false
namespace Go.Proofs.YtilfcikhipadpaaDoor
open Go.RowKit Go.Lib
attribute [local go_sem] Oper.semAt_some envL lookV

set_option maxHeartbeats 32000000 in
set_option maxRecDepth 100000 in
theorem BindsMake_walk0 (q : Pln) (A : Option Addr) (n c : Nat) (Ao : Option Addr) (no co : Nat) (os : List Pt) (now : Int) (w : World) (hT : Lasts w) (hW : Wds w) (hn : n = q.ws.length) (hA : wantK.Has w A q.ws) (hc : n ≤ c) (hno : no = os.length) (hO : pointK.Has w Ao os) (hOr : pointK.Read w (.slice Ao no co) os) (hco : no ≤ co) (hp : 0 ≤ q.x.p ∧ q.x.p ≤ 255) (hb : -9223372036854775808 ≤ now ∧ now ≤ 9223372036854775807) (hn6 : n ≤ 9223372036854775807) (hno6 : no ≤ 9223372036854775807) :
    Calls Tryd.prog 3 #[.agg #[.int .u8 q.x.p, .int .u32 q.x.si, .int .u16 q.x.sp, .int .u32 q.x.di, .int .u16 q.x.dp, .int .u32 q.di, .int .u16 q.dp, .bool q.src, .int .i64 q.st, .slice A n c], .slice Ao no co, .int .i64 now] w (Ret (.bool true) w) := by
  have cb := fun W (hW : Below w.heap.size w W) => bound_ok W (hT.below hW)
  have CB := hide cb
  clear cb
  by_cases hbig : 4 < n ∨ 5 < no
  · have hq : ((4 : Int) < (n : Int)) ∨ (¬ (4 : Int) < (n : Int) ∧ (5 : Int) < (no : Int)) := by omega
    have hnz : (n : Int) ≤ 9223372036854775807 := by omega
    have hnoz : (no : Int) ≤ 9223372036854775807 := by omega
    clear hbig hT hW hn hA hc hno hO hOr hco hp hb hn6 hno6
    rcases hq with h1 | ⟨h1, h2⟩
    · go_enter Tryd.func3, Tryd.ntmps3
      have d0 := Cells.new w #[.int .u8 q.x.p, .int .u32 q.x.si, .int .u16 q.x.sp, .int .u32 q.x.di, .int .u16 q.x.dp, .int .u32 q.di, .int .u16 q.dp, .bool q.src, .int .i64 q.st, .slice A n c] 31
      have l0 : Below w.heap.size w (w.alloc (.cells #[.int .u8 q.x.p, .int .u32 q.x.si, .int .u16 q.x.sp, .int .u32 q.x.di, .int .u16 q.x.dp, .int .u32 q.di, .int .u16 q.dp, .bool q.src, .int .i64 q.st, .slice A n c] 31)) := (fresh_below _ _)
      have L0 := hide l0; have D0 := hide d0
      clear l0 d0
      go_upto_region 1 with fail
      have l0 := L0.out; have d0 := D0.out
      clear L0 D0
      generalize (w.alloc (.cells #[.int .u8 q.x.p, .int .u32 q.x.si, .int .u16 q.x.sp, .int .u32 q.x.di, .int .u16 q.x.dp, .int .u32 q.di, .int .u16 q.dp, .bool q.src, .int .i64 q.st, .slice A n c] 31)) = w1 at *
      have qd0_0 : ∀ W', Below w1.heap.size w1 W' → World.cell? W' ⟨w.heap.size, 0, none⟩ = some (.int .u8 q.x.p) := fun W' h => Cells.at_ (Cells.below h d0) 0
      have qd0_1 : ∀ W', Below w1.heap.size w1 W' → World.cell? W' ⟨w.heap.size, 1, none⟩ = some (.int .u32 q.x.si) := fun W' h => Cells.at_ (Cells.below h d0) 1
      have qd0_2 : ∀ W', Below w1.heap.size w1 W' → World.cell? W' ⟨w.heap.size, 2, none⟩ = some (.int .u16 q.x.sp) := fun W' h => Cells.at_ (Cells.below h d0) 2
      have qd0_3 : ∀ W', Below w1.heap.size w1 W' → World.cell? W' ⟨w.heap.size, 3, none⟩ = some (.int .u32 q.x.di) := fun W' h => Cells.at_ (Cells.below h d0) 3
      have qd0_4 : ∀ W', Below w1.heap.size w1 W' → World.cell? W' ⟨w.heap.size, 4, none⟩ = some (.int .u16 q.x.dp) := fun W' h => Cells.at_ (Cells.below h d0) 4
      have qd0_5 : ∀ W', Below w1.heap.size w1 W' → World.cell? W' ⟨w.heap.size, 5, none⟩ = some (.int .u32 q.di) := fun W' h => Cells.at_ (Cells.below h d0) 5
      have qd0_6 : ∀ W', Below w1.heap.size w1 W' → World.cell? W' ⟨w.heap.size, 6, none⟩ = some (.int .u16 q.dp) := fun W' h => Cells.at_ (Cells.below h d0) 6
      have qd0_7 : ∀ W', Below w1.heap.size w1 W' → World.cell? W' ⟨w.heap.size, 7, none⟩ = some (.bool q.src) := fun W' h => Cells.at_ (Cells.below h d0) 7
      have qd0_8 : ∀ W', Below w1.heap.size w1 W' → World.cell? W' ⟨w.heap.size, 8, none⟩ = some (.int .i64 q.st) := fun W' h => Cells.at_ (Cells.below h d0) 8
      have qd0_9 : ∀ W', Below w1.heap.size w1 W' → World.cell? W' ⟨w.heap.size, 9, none⟩ = some (.slice A n c) := fun W' h => Cells.at_ (Cells.below h d0) 9
      have bb : Below w1.heap.size w1 w1 := Below.refl _ _
      have L0 := hide l0; have D0 := hide d0
      clear l0 d0
      go_wp2_with (go_at_call 4; (with_reducible refine (CB.out _ (bstep L0.out (by assumption))).mono ?_); rintro e w2 ⟨rfl, b2⟩; have b2' := bstep (by assumption : Below w1.heap.size w1 _) b2; clear b2)
      go_ret
      exact ⟨rfl, bstep L0.out (by assumption)⟩
    · go_enter Tryd.func3, Tryd.ntmps3
      have d0 := Cells.new w #[.int .u8 q.x.p, .int .u32 q.x.si, .int .u16 q.x.sp, .int .u32 q.x.di, .int .u16 q.x.dp, .int .u32 q.di, .int .u16 q.dp, .bool q.src, .int .i64 q.st, .slice A n c] 31
      have l0 : Below w.heap.size w (w.alloc (.cells #[.int .u8 q.x.p, .int .u32 q.x.si, .int .u16 q.x.sp, .int .u32 q.x.di, .int .u16 q.x.dp, .int .u32 q.di, .int .u16 q.dp, .bool q.src, .int .i64 q.st, .slice A n c] 31)) := (fresh_below _ _)
      have L0 := hide l0; have D0 := hide d0
      clear l0 d0
      go_upto_region 1 with fail
      have l0 := L0.out; have d0 := D0.out
      clear L0 D0
      generalize (w.alloc (.cells #[.int .u8 q.x.p, .int .u32 q.x.si, .int .u16 q.x.sp, .int .u32 q.x.di, .int .u16 q.x.dp, .int .u32 q.di, .int .u16 q.dp, .bool q.src, .int .i64 q.st, .slice A n c] 31)) = w1 at *
      have qd0_0 : ∀ W', Below w1.heap.size w1 W' → World.cell? W' ⟨w.heap.size, 0, none⟩ = some (.int .u8 q.x.p) := fun W' h => Cells.at_ (Cells.below h d0) 0
      have qd0_1 : ∀ W', Below w1.heap.size w1 W' → World.cell? W' ⟨w.heap.size, 1, none⟩ = some (.int .u32 q.x.si) := fun W' h => Cells.at_ (Cells.below h d0) 1
      have qd0_2 : ∀ W', Below w1.heap.size w1 W' → World.cell? W' ⟨w.heap.size, 2, none⟩ = some (.int .u16 q.x.sp) := fun W' h => Cells.at_ (Cells.below h d0) 2
      have qd0_3 : ∀ W', Below w1.heap.size w1 W' → World.cell? W' ⟨w.heap.size, 3, none⟩ = some (.int .u32 q.x.di) := fun W' h => Cells.at_ (Cells.below h d0) 3
      have qd0_4 : ∀ W', Below w1.heap.size w1 W' → World.cell? W' ⟨w.heap.size, 4, none⟩ = some (.int .u16 q.x.dp) := fun W' h => Cells.at_ (Cells.below h d0) 4
      have qd0_5 : ∀ W', Below w1.heap.size w1 W' → World.cell? W' ⟨w.heap.size, 5, none⟩ = some (.int .u32 q.di) := fun W' h => Cells.at_ (Cells.below h d0) 5
      have qd0_6 : ∀ W', Below w1.heap.size w1 W' → World.cell? W' ⟨w.heap.size, 6, none⟩ = some (.int .u16 q.dp) := fun W' h => Cells.at_ (Cells.below h d0) 6
      have qd0_7 : ∀ W', Below w1.heap.size w1 W' → World.cell? W' ⟨w.heap.size, 7, none⟩ = some (.bool q.src) := fun W' h => Cells.at_ (Cells.below h d0) 7
      have qd0_8 : ∀ W', Below w1.heap.size w1 W' → World.cell? W' ⟨w.heap.size, 8, none⟩ = some (.int .i64 q.st) := fun W' h => Cells.at_ (Cells.below h d0) 8
      have qd0_9 : ∀ W', Below w1.heap.size w1 W' → World.cell? W' ⟨w.heap.size, 9, none⟩ = some (.slice A n c) := fun W' h => Cells.at_ (Cells.below h d0) 9
      have bb : Below w1.heap.size w1 w1 := Below.refl _ _
      have L0 := hide l0; have D0 := hide d0
      clear l0 d0
      go_wp2_with (go_at_call 4; (with_reducible refine (CB.out _ (bstep L0.out (by assumption))).mono ?_); rintro e w2 ⟨rfl, b2⟩; have b2' := bstep (by assumption : Below w1.heap.size w1 _) b2; clear b2)
      go_ret
      exact ⟨rfl, bstep L0.out (by assumption)⟩
  · have u1 : ¬ (4 : Int) < (n : Int) := by omega
    have u2 : ¬ (5 : Int) < (no : Int) := by omega
    have hnz : (n : Int) ≤ 4 := by omega
    have hnoz : (no : Int) ≤ 5 := by omega
    have cp := fun W (hW : Below w.heap.size w W) => l_plan2 W q A n c hn (hA.below hW) (by omega) hc
    have CP := hide cp; have HT := hide hT; have HW := hide hW; have HN := hide hn; have HA := hide hA; have HC := hide hc; have HNO := hide hno; have HO := hide hO; have HOR := hide hOr; have HCO := hide hco; have HPP := hide hp; have HB := hide hb
    clear cp hbig hT hW hn hA hc hno hO hOr hco hp hb hn6 hno6
    go_enter Tryd.func3, Tryd.ntmps3
    have d0 := Cells.new w #[.int .u8 q.x.p, .int .u32 q.x.si, .int .u16 q.x.sp, .int .u32 q.x.di, .int .u16 q.x.dp, .int .u32 q.di, .int .u16 q.dp, .bool q.src, .int .i64 q.st, .slice A n c] 31
    have l0 : Below w.heap.size w (w.alloc (.cells #[.int .u8 q.x.p, .int .u32 q.x.si, .int .u16 q.x.sp, .int .u32 q.x.di, .int .u16 q.x.dp, .int .u32 q.di, .int .u16 q.dp, .bool q.src, .int .i64 q.st, .slice A n c] 31)) := (fresh_below _ _)
    have L0 := hide l0; have D0 := hide d0
    clear l0 d0
    go_upto_region 1 with fail
    have l0 := L0.out; have d0 := D0.out
    clear L0 D0
    generalize (w.alloc (.cells #[.int .u8 q.x.p, .int .u32 q.x.si, .int .u16 q.x.sp, .int .u32 q.x.di, .int .u16 q.x.dp, .int .u32 q.di, .int .u16 q.dp, .bool q.src, .int .i64 q.st, .slice A n c] 31)) = w1 at *
    have qd0_0 : ∀ W', Below w1.heap.size w1 W' → World.cell? W' ⟨w.heap.size, 0, none⟩ = some (.int .u8 q.x.p) := fun W' h => Cells.at_ (Cells.below h d0) 0
    have qd0_1 : ∀ W', Below w1.heap.size w1 W' → World.cell? W' ⟨w.heap.size, 1, none⟩ = some (.int .u32 q.x.si) := fun W' h => Cells.at_ (Cells.below h d0) 1
    have qd0_2 : ∀ W', Below w1.heap.size w1 W' → World.cell? W' ⟨w.heap.size, 2, none⟩ = some (.int .u16 q.x.sp) := fun W' h => Cells.at_ (Cells.below h d0) 2
    have qd0_3 : ∀ W', Below w1.heap.size w1 W' → World.cell? W' ⟨w.heap.size, 3, none⟩ = some (.int .u32 q.x.di) := fun W' h => Cells.at_ (Cells.below h d0) 3
    have qd0_4 : ∀ W', Below w1.heap.size w1 W' → World.cell? W' ⟨w.heap.size, 4, none⟩ = some (.int .u16 q.x.dp) := fun W' h => Cells.at_ (Cells.below h d0) 4
    have qd0_5 : ∀ W', Below w1.heap.size w1 W' → World.cell? W' ⟨w.heap.size, 5, none⟩ = some (.int .u32 q.di) := fun W' h => Cells.at_ (Cells.below h d0) 5
    have qd0_6 : ∀ W', Below w1.heap.size w1 W' → World.cell? W' ⟨w.heap.size, 6, none⟩ = some (.int .u16 q.dp) := fun W' h => Cells.at_ (Cells.below h d0) 6
    have qd0_7 : ∀ W', Below w1.heap.size w1 W' → World.cell? W' ⟨w.heap.size, 7, none⟩ = some (.bool q.src) := fun W' h => Cells.at_ (Cells.below h d0) 7
    have qd0_8 : ∀ W', Below w1.heap.size w1 W' → World.cell? W' ⟨w.heap.size, 8, none⟩ = some (.int .i64 q.st) := fun W' h => Cells.at_ (Cells.below h d0) 8
    have qd0_9 : ∀ W', Below w1.heap.size w1 W' → World.cell? W' ⟨w.heap.size, 9, none⟩ = some (.slice A n c) := fun W' h => Cells.at_ (Cells.below h d0) 9
    have bb : Below w1.heap.size w1 w1 := Below.refl _ _
    have L0 := hide l0; have D0 := hide d0
    clear l0 d0
    go_upto_region 4 with (go_at_call 5; (refine (CP.out _ L0.out).mono ?_); rintro e w2 ⟨Aq, cq, rfl, hq, hcq, b2⟩)
    clear u1 u2
    have nn := Cells.new w2 #[.int .u8 q.x.p, .int .u32 q.x.si, .int .u16 q.x.sp, .int .u32 q.x.di, .int .u16 q.x.dp, .int .u32 q.di, .int .u16 q.dp, .bool q.src, .int .i64 q.st, .slice Aq n cq] 36
    have bn : Below w1.heap.size w1 (w2.alloc (.cells #[.int .u8 q.x.p, .int .u32 q.x.si, .int .u16 q.x.sp, .int .u32 q.x.di, .int .u16 q.x.dp, .int .u32 q.di, .int .u16 q.dp, .bool q.src, .int .i64 q.st, .slice Aq n cq] 36)) := bstep b2 (fresh_below _ _)
    have HQ := hide (hq.below (fresh_below w2 (.cells #[.int .u8 q.x.p, .int .u32 q.x.si, .int .u16 q.x.sp, .int .u32 q.x.di, .int .u16 q.x.dp, .int .u32 q.di, .int .u16 q.dp, .bool q.src, .int .i64 q.st, .slice Aq n cq] 36))); have HCQ := hide hcq
    replace D0 := hide (Cells.below bn D0.out); replace L0 := hide (bstep L0.out bn)
    clear bn b2 bb hq hcq CP qd0_0 qd0_1 qd0_2 qd0_3 qd0_4 qd0_5 qd0_6 qd0_7 qd0_8 qd0_9
    generalize w2.heap.size = g7 at nn ⊢
    generalize (w2.alloc (.cells #[.int .u8 q.x.p, .int .u32 q.x.si, .int .u16 q.x.sp, .int .u32 q.x.di, .int .u16 q.x.dp, .int .u32 q.di, .int .u16 q.dp, .bool q.src, .int .i64 q.st, .slice Aq n cq] 36)) = w3 at *
    have D7 := hide nn
    clear nn
    obtain ⟨mm, hmm⟩ : ∃ mm, mm = min n no := ⟨_, rfl⟩
    have HMM := hide hmm
    clear hmm
    refine wp_region_lit ?_
    refine wpList_plain rfl fun K hK => ?_; go_simp; refine hK _ _ ?_; clear hK K
    go_step
    go_step
    go_step
    go_cut [8] from 28 to 61 (fun s8 wc => Aside (Below w3.heap.size w3 wc))
    case first =>
      go_wp2_with fail
      go_loopg [8] mm (fun gg s8 wr => ∃ kk : Nat, kk ≤ mm ∧ mm - kk ≤ gg ∧ s8 = .int .i64 kk ∧ Aside (Below w3.heap.size w3 wr))
      case atStart => exact ⟨0, Nat.zero_le _, by omega, rfl, (show Aside _ from Below.refl _ w3)⟩
      case round =>
        obtain ⟨kk, hkk, hg, rfl, BW⟩ := hrel
        have e0 := Cells.below BW.out D0.out; have e7 := Cells.below BW.out D7.out
        have lw := bstep L0.out BW.out
        have q0 : ∀ W', Below wr.heap.size wr W' → World.cell? W' ⟨w.heap.size, 9, none⟩ = some (.slice A n c) := fun W' hW => (Cells.below hW e0).at_ 9
        have q7 : ∀ W', Below wr.heap.size wr W' → World.cell? W' ⟨g7, 9, none⟩ = some (.slice Aq n cq) := fun W' hW => (Cells.below hW e7).at_ 9
        have bb : Below wr.heap.size wr wr := Below.refl _ _
        clear e0 e7
        by_cases hlt : kk < mm
        · have hm1 : (kk : Int) < (n : Int) := by have := HMM.out; omega
          have hm2 : (kk : Int) < (no : Int) := by have := HMM.out; omega
          have hl : kk < q.ws.length := by have := HN.out; omega
          have hlo : kk < os.length := by have := HNO.out; omega
          obtain ⟨g, o, hAe, hg0, hrow0⟩ := HA.out.at_ hl
          obtain ⟨gp, op, hOe, hgp0, hrowp0⟩ := HO.out.at_ hlo
          obtain ⟨gd, od, hDe, hgd0, hrowd0⟩ := HQ.out.at_ hl
          obtain ⟨r, hr⟩ : ∃ r, r = q.ws[kk] := ⟨_, rfl⟩
          obtain ⟨t, ht⟩ : ∃ t, t = os[kk] := ⟨_, rfl⟩
          rw [← hr] at hrow0 hrowd0
          rw [← ht] at hrowp0
          clear hr ht
          subst hAe hOe hDe
          have z0 : ∀ W', Below wr.heap.size wr W' → World.cell? W' ⟨g, o + kk * 8, none⟩ = some (.bool r.fx) := fun W' hW => hrow0 0 _ rfl W' (bstep lw hW)
          have z1 : ∀ W', Below wr.heap.size wr W' → World.cell? W' ⟨g, o + kk * 8 + 1, none⟩ = some (.int .u32 r.ii) := fun W' hW => hrow0 1 _ rfl W' (bstep lw hW)
          have z2 : ∀ W', Below wr.heap.size wr W' → World.cell? W' ⟨g, o + kk * 8 + 2, none⟩ = some (.int .u16 r.ip) := fun W' hW => hrow0 2 _ rfl W' (bstep lw hW)
          have z3 : ∀ W', Below wr.heap.size wr W' → World.cell? W' ⟨g, o + kk * 8 + 3, none⟩ = some (.int .u32 r.oi) := fun W' hW => hrow0 3 _ rfl W' (bstep lw hW)
          have z4 : ∀ W', Below wr.heap.size wr W' → World.cell? W' ⟨g, o + kk * 8 + 4, none⟩ = some (.int .u16 r.op) := fun W' hW => hrow0 4 _ rfl W' (bstep lw hW)
          have z5 : ∀ W', Below wr.heap.size wr W' → World.cell? W' ⟨g, o + kk * 8 + 5, none⟩ = some (.int .u32 r.a) := fun W' hW => hrow0 5 _ rfl W' (bstep lw hW)
          have z6 : ∀ W', Below wr.heap.size wr W' → World.cell? W' ⟨g, o + kk * 8 + 6, none⟩ = some (.int .u16 r.f) := fun W' hW => hrow0 6 _ rfl W' (bstep lw hW)
          have z7 : ∀ W', Below wr.heap.size wr W' → World.cell? W' ⟨g, o + kk * 8 + 7, none⟩ = some (.int .u16 r.t) := fun W' hW => hrow0 7 _ rfl W' (bstep lw hW)
          have y0 : ∀ W', Below wr.heap.size wr W' → World.cell? W' ⟨gd, od + kk * 8, none⟩ = some (.bool r.fx) := fun W' hW => hrowd0 0 _ rfl W' (bstep BW.out hW)
          have y1 : ∀ W', Below wr.heap.size wr W' → World.cell? W' ⟨gd, od + kk * 8 + 1, none⟩ = some (.int .u32 r.ii) := fun W' hW => hrowd0 1 _ rfl W' (bstep BW.out hW)
          have y2 : ∀ W', Below wr.heap.size wr W' → World.cell? W' ⟨gd, od + kk * 8 + 2, none⟩ = some (.int .u16 r.ip) := fun W' hW => hrowd0 2 _ rfl W' (bstep BW.out hW)
          have y3 : ∀ W', Below wr.heap.size wr W' → World.cell? W' ⟨gd, od + kk * 8 + 3, none⟩ = some (.int .u32 r.oi) := fun W' hW => hrowd0 3 _ rfl W' (bstep BW.out hW)
          have y4 : ∀ W', Below wr.heap.size wr W' → World.cell? W' ⟨gd, od + kk * 8 + 4, none⟩ = some (.int .u16 r.op) := fun W' hW => hrowd0 4 _ rfl W' (bstep BW.out hW)
          have y5 : ∀ W', Below wr.heap.size wr W' → World.cell? W' ⟨gd, od + kk * 8 + 5, none⟩ = some (.int .u32 r.a) := fun W' hW => hrowd0 5 _ rfl W' (bstep BW.out hW)
          have y6 : ∀ W', Below wr.heap.size wr W' → World.cell? W' ⟨gd, od + kk * 8 + 6, none⟩ = some (.int .u16 r.f) := fun W' hW => hrowd0 6 _ rfl W' (bstep BW.out hW)
          have y7 : ∀ W', Below wr.heap.size wr W' → World.cell? W' ⟨gd, od + kk * 8 + 7, none⟩ = some (.int .u16 r.t) := fun W' hW => hrowd0 7 _ rfl W' (bstep BW.out hW)
          have p0 : ∀ W', Below wr.heap.size wr W' → World.cell? W' ⟨gp, op + kk * 2, none⟩ = some (.int .u32 t.a) := fun W' hW => hrowp0 0 _ rfl W' (bstep lw hW)
          have p1 : ∀ W', Below wr.heap.size wr W' → World.cell? W' ⟨gp, op + kk * 2 + 1, none⟩ = some (.int .u16 t.p) := fun W' hW => hrowp0 1 _ rfl W' (bstep lw hW)
          have cf := fun W => b_Fits W r t.a t.p
          have cd := fun W => d_Fits W r t.a t.p
          generalize fitsV r t.a t.p = fv at *
          have CF := hide cf; have CD := hide cd; have BW0 := BW
          have hkw : IntKind.i64.wrap ((kk : Int) + 1) = ((kk + 1 : Nat) : Int) := by rw [IntWalk.i64_in _ (by omega)]; omega
          have hdk : decide ((kk : Int) < 0) = false := by rw [decide_eq_false_iff_not]; omega
          have hfv : (fv != fv) = false := by simp
          clear cf cd hrow0 hrowp0 hrowd0 lw hg0 hgp0 hgd0 BW
          go_upto_region 7 with fail
          have s7 : Below wr.heap.size wr wr.drew := Below.drew bb
          focus
            refine wp_region_J [] (fun W => Below wr.heap.size wr W) (by kernel_rfl) (s7) (fun hS0 => ?_)
            obtain ⟨hG, hsel⟩ := okOps (md := .any) (ops := #[{ dst := some 41 , op := Go.Op.fieldAddr 31 ( Go.Operand.tmp 3 ) 4 , type := 0 , pos := "law.go:146" , after := #[ ] , guard := none }, { dst := some 42 , op := Go.Op.load 29 ( Go.Operand.tmp 41 ) , type := 29 , pos := "law.go:146" , after := #[ { on := 0 , ground := Go.Ground.data } ] , guard := none }, { dst := some 43 , op := Go.Op.move ( Go.Operand.tmp 8 ) , type := 3 , pos := "law.go:146" , after := #[ ] , guard := none }, { dst := some 44 , op := Go.Op.indexAddr 29 ( Go.Operand.tmp 42 ) ( Go.Operand.tmp 43 ) , type := 0 , pos := "law.go:146" , after := #[ { on := 1 , ground := Go.Ground.data } , { on := 2 , ground := Go.Ground.data } ] , guard := none }, { dst := some 45 , op := Go.Op.load 40 ( Go.Operand.tmp 44 ) , type := 40 , pos := "law.go:146" , after := #[ { on := 3 , ground := Go.Ground.data } ] , guard := none }, { dst := some 46 , op := Go.Op.move ( Go.Operand.tmp 1 ) , type := 32 , pos := "law.go:146" , after := #[ ] , guard := none }, { dst := some 47 , op := Go.Op.move ( Go.Operand.tmp 8 ) , type := 3 , pos := "law.go:146" , after := #[ ] , guard := none }, { dst := some 48 , op := Go.Op.indexAddr 32 ( Go.Operand.tmp 46 ) ( Go.Operand.tmp 47 ) , type := 0 , pos := "law.go:146" , after := #[ { on := 5 , ground := Go.Ground.data } , { on := 6 , ground := Go.Ground.data } ] , guard := none }, { dst := some 49 , op := Go.Op.load 26 ( Go.Operand.tmp 48 ) , type := 26 , pos := "law.go:146" , after := #[ { on := 7 , ground := Go.Ground.data } ] , guard := none }, { dst := some 50 , op := Go.Op.call { callee := Go.Callee.value ( Go.Operand.func 6 ) , args := #[ Go.Operand.tmp 45 , Go.Operand.tmp 49 ] , argTypes := #[ 40 , 26 ] } , type := 4 , pos := "law.go:146" , after := #[ { on := 4 , ground := Go.Ground.data } , { on := 8 , ground := Go.Ground.data } ] , guard := none }, { dst := some 51 , op := Go.Op.fieldAddr 36 ( Go.Operand.tmp 7 ) 4 , type := 0 , pos := "law.go:146" , after := #[ ] , guard := none }, { dst := some 52 , op := Go.Op.load 34 ( Go.Operand.tmp 51 ) , type := 34 , pos := "law.go:146" , after := #[ { on := 10 , ground := Go.Ground.data } ] , guard := none }, { dst := some 53 , op := Go.Op.move ( Go.Operand.tmp 8 ) , type := 3 , pos := "law.go:146" , after := #[ ] , guard := none }, { dst := some 54 , op := Go.Op.indexAddr 34 ( Go.Operand.tmp 52 ) ( Go.Operand.tmp 53 ) , type := 0 , pos := "law.go:146" , after := #[ { on := 11 , ground := Go.Ground.data } , { on := 12 , ground := Go.Ground.data } ] , guard := none }, { dst := some 55 , op := Go.Op.load 42 ( Go.Operand.tmp 54 ) , type := 42 , pos := "law.go:146" , after := #[ { on := 13 , ground := Go.Ground.data } ] , guard := none }, { dst := some 56 , op := Go.Op.move ( Go.Operand.tmp 1 ) , type := 32 , pos := "law.go:146" , after := #[ ] , guard := none }, { dst := some 57 , op := Go.Op.move ( Go.Operand.tmp 8 ) , type := 3 , pos := "law.go:146" , after := #[ ] , guard := none }, { dst := some 58 , op := Go.Op.indexAddr 32 ( Go.Operand.tmp 56 ) ( Go.Operand.tmp 57 ) , type := 0 , pos := "law.go:146" , after := #[ { on := 15 , ground := Go.Ground.data } , { on := 16 , ground := Go.Ground.data } ] , guard := none }, { dst := some 59 , op := Go.Op.load 26 ( Go.Operand.tmp 58 ) , type := 26 , pos := "law.go:146" , after := #[ { on := 17 , ground := Go.Ground.data } ] , guard := none }, { dst := some 60 , op := Go.Op.call { callee := Go.Callee.value ( Go.Operand.func 7 ) , args := #[ Go.Operand.tmp 55 , Go.Operand.tmp 59 ] , argTypes := #[ 42 , 26 ] } , type := 4 , pos := "law.go:146" , after := #[ { on := 14 , ground := Go.Ground.data } , { on := 18 , ground := Go.Ground.data } , { on := 9 , ground := Go.Ground.chain } ] , guard := none }, { dst := some 61 , op := Go.Op.binOp Go.BinOp.neq 4 ( Go.Operand.tmp 50 ) ( Go.Operand.tmp 60 ) 4 , type := 4 , pos := "law.go:146" , after := #[ { on := 9 , ground := Go.Ground.data } , { on := 19 , ground := Go.Ground.data } ] , guard := none }]) (by kernel_rfl)
            refine wpAnyJ_takeG (i := 0) (oi := { dst := some 41 , op := Go.Op.fieldAddr 31 ( Go.Operand.tmp 3 ) 4 , type := 0 , pos := "law.go:146" , after := #[ ] , guard := none }) (v := ?v0_1) hG hsel (by kernel_rfl) (by kernel_rfl) (by kernel_rfl) (by kernel_rfl) (fun _ _ _ h => h) (Or.inl (And.intro (by kernel_rfl) ?q0_1)) hS0 ?r0_1
            case q0_1 => intro w hx; refine run_env [3] [?a0_1_3] (by kernel_rfl) (by kernel_rfl) (⟨?e0_1_3, trivial⟩) ?h0_1; (case e0_1_3 => ((conv => lhs; whnf); (try exact rfl))); (case h0_1 => ((try dsimp only); (try simp only [envL, lookV, if_true, if_false]); (try go_simp); (try with_reducible rfl)))
            (try simp only [Act.put, List.setIfInBounds_toArray, List.set_cons_zero, List.set_cons_succ, List.getElem_toArray, List.getElem_cons_succ, List.getElem_cons_zero])
            refine wpAnyJ_takeG (i := 1) (oi := { dst := some 42 , op := Go.Op.load 29 ( Go.Operand.tmp 41 ) , type := 29 , pos := "law.go:146" , after := #[ { on := 0 , ground := Go.Ground.data } ] , guard := none }) (v := ?v1_2) hG hsel (by kernel_rfl) (by kernel_rfl) (by kernel_rfl) (by kernel_rfl) (fun _ _ _ h => h) (Or.inl (And.intro (by kernel_rfl) ?q1_2)) hS0 ?r1_2
            case q1_2 => intro w hx; refine run_env [41] [?a1_2_41] (by kernel_rfl) (by kernel_rfl) (⟨?e1_2_41, trivial⟩) ?h1_2; (case e1_2_41 => ((conv => lhs; whnf); (try exact rfl))); (case h1_2 => ((try dsimp only); (try simp only [envL, lookV, if_true, if_false]); (try go_simp); (try with_reducible rfl)))
            (try simp only [Act.put, List.setIfInBounds_toArray, List.set_cons_zero, List.set_cons_succ, List.getElem_toArray, List.getElem_cons_succ, List.getElem_cons_zero])
            refine wpAnyJ_takeG (i := 2) (oi := { dst := some 43 , op := Go.Op.move ( Go.Operand.tmp 8 ) , type := 3 , pos := "law.go:146" , after := #[ ] , guard := none }) (v := ?v2_3) hG hsel (by kernel_rfl) (by kernel_rfl) (by kernel_rfl) (by kernel_rfl) (fun _ _ _ h => h) (Or.inl (And.intro (by kernel_rfl) ?q2_3)) hS0 ?r2_3
            case q2_3 => intro w hx; refine run_env [8] [?a2_3_8] (by kernel_rfl) (by kernel_rfl) (⟨?e2_3_8, trivial⟩) ?h2_3; (case e2_3_8 => ((conv => lhs; whnf); (try exact rfl))); (case h2_3 => ((try dsimp only); (try simp only [envL, lookV, if_true, if_false]); (try go_simp); (try with_reducible rfl)))
            (try simp only [Act.put, List.setIfInBounds_toArray, List.set_cons_zero, List.set_cons_succ, List.getElem_toArray, List.getElem_cons_succ, List.getElem_cons_zero])
            refine wpAnyJ_takeG (i := 3) (oi := { dst := some 44 , op := Go.Op.indexAddr 29 ( Go.Operand.tmp 42 ) ( Go.Operand.tmp 43 ) , type := 0 , pos := "law.go:146" , after := #[ { on := 1 , ground := Go.Ground.data } , { on := 2 , ground := Go.Ground.data } ] , guard := none }) (v := ?v3_4) hG hsel (by kernel_rfl) (by kernel_rfl) (by kernel_rfl) (by kernel_rfl) (fun _ _ _ h => h) (Or.inl (And.intro (by kernel_rfl) ?q3_4)) hS0 ?r3_4
            case q3_4 => intro w hx; refine run_env [42, 43] [?a3_4_42, ?a3_4_43] (by kernel_rfl) (by kernel_rfl) (⟨?e3_4_42, ?e3_4_43, trivial⟩) ?h3_4; (case e3_4_42 => ((conv => lhs; whnf); (try exact rfl))); (case e3_4_43 => ((conv => lhs; whnf); (try exact rfl))); (case h3_4 => ((try dsimp only); (try simp only [envL, lookV, if_true, if_false]); (try go_simp); (try with_reducible rfl)))
            (try simp only [Act.put, List.setIfInBounds_toArray, List.set_cons_zero, List.set_cons_succ, List.getElem_toArray, List.getElem_cons_succ, List.getElem_cons_zero])
            refine wpAnyJ_takeG (i := 4) (oi := { dst := some 45 , op := Go.Op.load 40 ( Go.Operand.tmp 44 ) , type := 40 , pos := "law.go:146" , after := #[ { on := 3 , ground := Go.Ground.data } ] , guard := none }) (v := ?v4_5) hG hsel (by kernel_rfl) (by kernel_rfl) (by kernel_rfl) (by kernel_rfl) (fun _ _ _ h => h) (Or.inl (And.intro (by kernel_rfl) ?q4_5)) hS0 ?r4_5
            case q4_5 => intro w hx; refine run_env [44] [?a4_5_44] (by kernel_rfl) (by kernel_rfl) (⟨?e4_5_44, trivial⟩) ?h4_5; (case e4_5_44 => ((conv => lhs; whnf); (try exact rfl))); (case h4_5 => ((try dsimp only); (try simp only [envL, lookV, if_true, if_false]); (try go_simp); (try with_reducible rfl)))
            (try simp only [Act.put, List.setIfInBounds_toArray, List.set_cons_zero, List.set_cons_succ, List.getElem_toArray, List.getElem_cons_succ, List.getElem_cons_zero])
            refine wpAnyJ_takeG (i := 5) (oi := { dst := some 46 , op := Go.Op.move ( Go.Operand.tmp 1 ) , type := 32 , pos := "law.go:146" , after := #[ ] , guard := none }) (v := ?v5_6) hG hsel (by kernel_rfl) (by kernel_rfl) (by kernel_rfl) (by kernel_rfl) (fun _ _ _ h => h) (Or.inl (And.intro (by kernel_rfl) ?q5_6)) hS0 ?r5_6
            case q5_6 => intro w hx; refine run_env [1] [?a5_6_1] (by kernel_rfl) (by kernel_rfl) (⟨?e5_6_1, trivial⟩) ?h5_6; (case e5_6_1 => ((conv => lhs; whnf); (try exact rfl))); (case h5_6 => ((try dsimp only); (try simp only [envL, lookV, if_true, if_false]); (try go_simp); (try with_reducible rfl)))
            (try simp only [Act.put, List.setIfInBounds_toArray, List.set_cons_zero, List.set_cons_succ, List.getElem_toArray, List.getElem_cons_succ, List.getElem_cons_zero])
            refine wpAnyJ_takeG (i := 6) (oi := { dst := some 47 , op := Go.Op.move ( Go.Operand.tmp 8 ) , type := 3 , pos := "law.go:146" , after := #[ ] , guard := none }) (v := ?v6_7) hG hsel (by kernel_rfl) (by kernel_rfl) (by kernel_rfl) (by kernel_rfl) (fun _ _ _ h => h) (Or.inl (And.intro (by kernel_rfl) ?q6_7)) hS0 ?r6_7
            case q6_7 => intro w hx; refine run_env [8] [?a6_7_8] (by kernel_rfl) (by kernel_rfl) (⟨?e6_7_8, trivial⟩) ?h6_7; (case e6_7_8 => ((conv => lhs; whnf); (try exact rfl))); (case h6_7 => ((try dsimp only); (try simp only [envL, lookV, if_true, if_false]); (try go_simp); (try with_reducible rfl)))
            (try simp only [Act.put, List.setIfInBounds_toArray, List.set_cons_zero, List.set_cons_succ, List.getElem_toArray, List.getElem_cons_succ, List.getElem_cons_zero])
            refine wpAnyJ_takeG (i := 7) (oi := { dst := some 48 , op := Go.Op.indexAddr 32 ( Go.Operand.tmp 46 ) ( Go.Operand.tmp 47 ) , type := 0 , pos := "law.go:146" , after := #[ { on := 5 , ground := Go.Ground.data } , { on := 6 , ground := Go.Ground.data } ] , guard := none }) (v := ?v7_8) hG hsel (by kernel_rfl) (by kernel_rfl) (by kernel_rfl) (by kernel_rfl) (fun _ _ _ h => h) (Or.inl (And.intro (by kernel_rfl) ?q7_8)) hS0 ?r7_8
            case q7_8 => intro w hx; refine run_env [46, 47] [?a7_8_46, ?a7_8_47] (by kernel_rfl) (by kernel_rfl) (⟨?e7_8_46, ?e7_8_47, trivial⟩) ?h7_8; (case e7_8_46 => ((conv => lhs; whnf); (try exact rfl))); (case e7_8_47 => ((conv => lhs; whnf); (try exact rfl))); (case h7_8 => ((try dsimp only); (try simp only [envL, lookV, if_true, if_false]); (try go_simp); (try with_reducible rfl)))
            (try simp only [Act.put, List.setIfInBounds_toArray, List.set_cons_zero, List.set_cons_succ, List.getElem_toArray, List.getElem_cons_succ, List.getElem_cons_zero])
            refine wpAnyJ_takeG (i := 8) (oi := { dst := some 49 , op := Go.Op.load 26 ( Go.Operand.tmp 48 ) , type := 26 , pos := "law.go:146" , after := #[ { on := 7 , ground := Go.Ground.data } ] , guard := none }) (v := ?v8_9) hG hsel (by kernel_rfl) (by kernel_rfl) (by kernel_rfl) (by kernel_rfl) (fun _ _ _ h => h) (Or.inl (And.intro (by kernel_rfl) ?q8_9)) hS0 ?r8_9
            case q8_9 => intro w hx; refine run_env [48] [?a8_9_48] (by kernel_rfl) (by kernel_rfl) (⟨?e8_9_48, trivial⟩) ?h8_9; (case e8_9_48 => ((conv => lhs; whnf); (try exact rfl))); (case h8_9 => ((try dsimp only); (try simp only [envL, lookV, if_true, if_false]); (try go_simp); (try with_reducible rfl)))
            (try simp only [Act.put, List.setIfInBounds_toArray, List.set_cons_zero, List.set_cons_succ, List.getElem_toArray, List.getElem_cons_succ, List.getElem_cons_zero])
            refine wpAnyJ_takeG (i := 10) (oi := { dst := some 51 , op := Go.Op.fieldAddr 36 ( Go.Operand.tmp 7 ) 4 , type := 0 , pos := "law.go:146" , after := #[ ] , guard := none }) (v := ?v10_10) hG hsel (by kernel_rfl) (by kernel_rfl) (by kernel_rfl) (by kernel_rfl) (fun _ _ _ h => h) (Or.inl (And.intro (by kernel_rfl) ?q10_10)) hS0 ?r10_10
            case q10_10 => intro w hx; refine run_env [7] [?a10_10_7] (by kernel_rfl) (by kernel_rfl) (⟨?e10_10_7, trivial⟩) ?h10_10; (case e10_10_7 => ((conv => lhs; whnf); (try exact rfl))); (case h10_10 => ((try dsimp only); (try simp only [envL, lookV, if_true, if_false]); (try go_simp); (try with_reducible rfl)))
            (try simp only [Act.put, List.setIfInBounds_toArray, List.set_cons_zero, List.set_cons_succ, List.getElem_toArray, List.getElem_cons_succ, List.getElem_cons_zero])
            refine wpAnyJ_takeG (i := 11) (oi := { dst := some 52 , op := Go.Op.load 34 ( Go.Operand.tmp 51 ) , type := 34 , pos := "law.go:146" , after := #[ { on := 10 , ground := Go.Ground.data } ] , guard := none }) (v := ?v11_11) hG hsel (by kernel_rfl) (by kernel_rfl) (by kernel_rfl) (by kernel_rfl) (fun _ _ _ h => h) (Or.inl (And.intro (by kernel_rfl) ?q11_11)) hS0 ?r11_11
            case q11_11 => intro w hx; refine run_env [51] [?a11_11_51] (by kernel_rfl) (by kernel_rfl) (⟨?e11_11_51, trivial⟩) ?h11_11; (case e11_11_51 => ((conv => lhs; whnf); (try exact rfl))); (case h11_11 => ((try dsimp only); (try simp only [envL, lookV, if_true, if_false]); (try go_simp); (try with_reducible rfl)))
            (try simp only [Act.put, List.setIfInBounds_toArray, List.set_cons_zero, List.set_cons_succ, List.getElem_toArray, List.getElem_cons_succ, List.getElem_cons_zero])
            refine wpAnyJ_takeG (i := 12) (oi := { dst := some 53 , op := Go.Op.move ( Go.Operand.tmp 8 ) , type := 3 , pos := "law.go:146" , after := #[ ] , guard := none }) (v := ?v12_12) hG hsel (by kernel_rfl) (by kernel_rfl) (by kernel_rfl) (by kernel_rfl) (fun _ _ _ h => h) (Or.inl (And.intro (by kernel_rfl) ?q12_12)) hS0 ?r12_12
            case q12_12 => intro w hx; refine run_env [8] [?a12_12_8] (by kernel_rfl) (by kernel_rfl) (⟨?e12_12_8, trivial⟩) ?h12_12; (case e12_12_8 => ((conv => lhs; whnf); (try exact rfl))); (case h12_12 => ((try dsimp only); (try simp only [envL, lookV, if_true, if_false]); (try go_simp); (try with_reducible rfl)))
            (try simp only [Act.put, List.setIfInBounds_toArray, List.set_cons_zero, List.set_cons_succ, List.getElem_toArray, List.getElem_cons_succ, List.getElem_cons_zero])
            refine wpAnyJ_takeG (i := 13) (oi := { dst := some 54 , op := Go.Op.indexAddr 34 ( Go.Operand.tmp 52 ) ( Go.Operand.tmp 53 ) , type := 0 , pos := "law.go:146" , after := #[ { on := 11 , ground := Go.Ground.data } , { on := 12 , ground := Go.Ground.data } ] , guard := none }) (v := ?v13_13) hG hsel (by kernel_rfl) (by kernel_rfl) (by kernel_rfl) (by kernel_rfl) (fun _ _ _ h => h) (Or.inl (And.intro (by kernel_rfl) ?q13_13)) hS0 ?r13_13
            case q13_13 => intro w hx; refine run_env [52, 53] [?a13_13_52, ?a13_13_53] (by kernel_rfl) (by kernel_rfl) (⟨?e13_13_52, ?e13_13_53, trivial⟩) ?h13_13; (case e13_13_52 => ((conv => lhs; whnf); (try exact rfl))); (case e13_13_53 => ((conv => lhs; whnf); (try exact rfl))); (case h13_13 => ((try dsimp only); (try simp only [envL, lookV, if_true, if_false]); (try go_simp); (try with_reducible rfl)))
            (try simp only [Act.put, List.setIfInBounds_toArray, List.set_cons_zero, List.set_cons_succ, List.getElem_toArray, List.getElem_cons_succ, List.getElem_cons_zero])
            refine wpAnyJ_takeG (i := 14) (oi := { dst := some 55 , op := Go.Op.load 42 ( Go.Operand.tmp 54 ) , type := 42 , pos := "law.go:146" , after := #[ { on := 13 , ground := Go.Ground.data } ] , guard := none }) (v := ?v14_14) hG hsel (by kernel_rfl) (by kernel_rfl) (by kernel_rfl) (by kernel_rfl) (fun _ _ _ h => h) (Or.inl (And.intro (by kernel_rfl) ?q14_14)) hS0 ?r14_14
            case q14_14 => intro w hx; refine run_env [54] [?a14_14_54] (by kernel_rfl) (by kernel_rfl) (⟨?e14_14_54, trivial⟩) ?h14_14; (case e14_14_54 => ((conv => lhs; whnf); (try exact rfl))); (case h14_14 => ((try dsimp only); (try simp only [envL, lookV, if_true, if_false]); (try go_simp); (try with_reducible rfl)))
            (try simp only [Act.put, List.setIfInBounds_toArray, List.set_cons_zero, List.set_cons_succ, List.getElem_toArray, List.getElem_cons_succ, List.getElem_cons_zero])
            refine wpAnyJ_takeG (i := 15) (oi := { dst := some 56 , op := Go.Op.move ( Go.Operand.tmp 1 ) , type := 32 , pos := "law.go:146" , after := #[ ] , guard := none }) (v := ?v15_15) hG hsel (by kernel_rfl) (by kernel_rfl) (by kernel_rfl) (by kernel_rfl) (fun _ _ _ h => h) (Or.inl (And.intro (by kernel_rfl) ?q15_15)) hS0 ?r15_15
            case q15_15 => intro w hx; refine run_env [1] [?a15_15_1] (by kernel_rfl) (by kernel_rfl) (⟨?e15_15_1, trivial⟩) ?h15_15; (case e15_15_1 => ((conv => lhs; whnf); (try exact rfl))); (case h15_15 => ((try dsimp only); (try simp only [envL, lookV, if_true, if_false]); (try go_simp); (try with_reducible rfl)))
            (try simp only [Act.put, List.setIfInBounds_toArray, List.set_cons_zero, List.set_cons_succ, List.getElem_toArray, List.getElem_cons_succ, List.getElem_cons_zero])
            refine wpAnyJ_takeG (i := 16) (oi := { dst := some 57 , op := Go.Op.move ( Go.Operand.tmp 8 ) , type := 3 , pos := "law.go:146" , after := #[ ] , guard := none }) (v := ?v16_16) hG hsel (by kernel_rfl) (by kernel_rfl) (by kernel_rfl) (by kernel_rfl) (fun _ _ _ h => h) (Or.inl (And.intro (by kernel_rfl) ?q16_16)) hS0 ?r16_16
            case q16_16 => intro w hx; refine run_env [8] [?a16_16_8] (by kernel_rfl) (by kernel_rfl) (⟨?e16_16_8, trivial⟩) ?h16_16; (case e16_16_8 => ((conv => lhs; whnf); (try exact rfl))); (case h16_16 => ((try dsimp only); (try simp only [envL, lookV, if_true, if_false]); (try go_simp); (try with_reducible rfl)))
            (try simp only [Act.put, List.setIfInBounds_toArray, List.set_cons_zero, List.set_cons_succ, List.getElem_toArray, List.getElem_cons_succ, List.getElem_cons_zero])
            refine wpAnyJ_takeG (i := 17) (oi := { dst := some 58 , op := Go.Op.indexAddr 32 ( Go.Operand.tmp 56 ) ( Go.Operand.tmp 57 ) , type := 0 , pos := "law.go:146" , after := #[ { on := 15 , ground := Go.Ground.data } , { on := 16 , ground := Go.Ground.data } ] , guard := none }) (v := ?v17_17) hG hsel (by kernel_rfl) (by kernel_rfl) (by kernel_rfl) (by kernel_rfl) (fun _ _ _ h => h) (Or.inl (And.intro (by kernel_rfl) ?q17_17)) hS0 ?r17_17
            case q17_17 => intro w hx; refine run_env [56, 57] [?a17_17_56, ?a17_17_57] (by kernel_rfl) (by kernel_rfl) (⟨?e17_17_56, ?e17_17_57, trivial⟩) ?h17_17; (case e17_17_56 => ((conv => lhs; whnf); (try exact rfl))); (case e17_17_57 => ((conv => lhs; whnf); (try exact rfl))); (case h17_17 => ((try dsimp only); (try simp only [envL, lookV, if_true, if_false]); (try go_simp); (try with_reducible rfl)))
            (try simp only [Act.put, List.setIfInBounds_toArray, List.set_cons_zero, List.set_cons_succ, List.getElem_toArray, List.getElem_cons_succ, List.getElem_cons_zero])
            refine wpAnyJ_takeG (i := 18) (oi := { dst := some 59 , op := Go.Op.load 26 ( Go.Operand.tmp 58 ) , type := 26 , pos := "law.go:146" , after := #[ { on := 17 , ground := Go.Ground.data } ] , guard := none }) (v := ?v18_18) hG hsel (by kernel_rfl) (by kernel_rfl) (by kernel_rfl) (by kernel_rfl) (fun _ _ _ h => h) (Or.inl (And.intro (by kernel_rfl) ?q18_18)) hS0 ?r18_18
            case q18_18 => intro w hx; refine run_env [58] [?a18_18_58] (by kernel_rfl) (by kernel_rfl) (⟨?e18_18_58, trivial⟩) ?h18_18; (case e18_18_58 => ((conv => lhs; whnf); (try exact rfl))); (case h18_18 => ((try dsimp only); (try simp only [envL, lookV, if_true, if_false]); (try go_simp); (try with_reducible rfl)))
            (try simp only [Act.put, List.setIfInBounds_toArray, List.set_cons_zero, List.set_cons_succ, List.getElem_toArray, List.getElem_cons_succ, List.getElem_cons_zero])
            refine wpAnyJ_ready (rs := [9]) (by kernel_rfl) (by simp) ?_
            refine (AllReadyJ.cons rfl (fun K hK => ?_) AllReadyJ.nil)
            rw [if_pos (by kernel_rfl)]
            (try simp only [List.getElem_toArray, List.getElem_cons_succ, List.getElem_cons_zero])
            (focus go_simp)
            (focus ((with_reducible refine (CF.out _).mono ?_); rintro e wq9 ⟨rfl, bq9⟩; have sq := bstep hS0 bq9))
            (focus (try go_wp2_with fail))
            refine hK.out _ _ ?hs (fun hS0 => ?_)
            case hs => (first | with_reducible exact hS0 | with_reducible exact sq)
            clear hK K
            (try simp only [Act.put, List.setIfInBounds_toArray, List.set_cons_zero, List.set_cons_succ, List.getElem_toArray, List.getElem_cons_succ, List.getElem_cons_zero])
            refine wpAnyJ_ready (rs := [19]) (by kernel_rfl) (by simp) ?_
            refine (AllReadyJ.cons rfl (fun K hK => ?_) AllReadyJ.nil)
            rw [if_pos (by kernel_rfl)]
            (try simp only [List.getElem_toArray, List.getElem_cons_succ, List.getElem_cons_zero])
            (focus go_simp)
            (focus ((with_reducible refine (CD.out _).mono ?_); rintro e wq19 ⟨rfl, bq19⟩; have sq := bstep hS0 bq19))
            (focus (try go_wp2_with fail))
            refine hK.out _ _ ?hs (fun hS0 => ?_)
            case hs => (first | with_reducible exact hS0 | with_reducible exact sq)
            clear hK K
            (try simp only [Act.put, List.setIfInBounds_toArray, List.set_cons_zero, List.set_cons_succ, List.getElem_toArray, List.getElem_cons_succ, List.getElem_cons_zero])
            refine wpAnyJ_takeG (i := 20) (oi := { dst := some 61 , op := Go.Op.binOp Go.BinOp.neq 4 ( Go.Operand.tmp 50 ) ( Go.Operand.tmp 60 ) 4 , type := 4 , pos := "law.go:146" , after := #[ { on := 9 , ground := Go.Ground.data } , { on := 19 , ground := Go.Ground.data } ] , guard := none }) (v := ?v20_19) hG hsel (by kernel_rfl) (by kernel_rfl) (by kernel_rfl) (by kernel_rfl) (fun _ _ _ h => h) (Or.inl (And.intro (by kernel_rfl) ?q20_19)) hS0 ?r20_19
            case q20_19 => intro w hx; refine run_env [50, 60] [?a20_19_50, ?a20_19_60] (by kernel_rfl) (by kernel_rfl) (⟨?e20_19_50, ?e20_19_60, trivial⟩) ?h20_19; (case e20_19_50 => ((conv => lhs; whnf); (try exact rfl))); (case e20_19_60 => ((conv => lhs; whnf); (try exact rfl))); (case h20_19 => ((try dsimp only); (try simp only [envL, lookV, if_true, if_false]); (try go_simp); (try with_reducible rfl)))
            (try simp only [Act.put, List.setIfInBounds_toArray, List.set_cons_zero, List.set_cons_succ, List.getElem_toArray, List.getElem_cons_succ, List.getElem_cons_zero])
            refine wpAnyJ_done (by kernel_rfl) ?_ _
          all_goals
            have BX := hide (bstep BW0.out hS0)
            clear s7 sq bq9 bq19 p0 p1 q0 q7 bb z0 z1 z2 z3 z4 z5 z6 z7 y0 y1 y2 y3 y4 y5 y6 y7 hS0
            go_wp2_with fail
            go_roundg (mm - (kk + 1))
            case measure => omega
            case rel => exact ⟨kk + 1, by omega, by omega, by go_num, (show Aside _ from BX.out)⟩
        · have hq : ¬ (kk : Int) < (no : Int) ∨ ((kk : Int) < (no : Int) ∧ ¬ (kk : Int) < (n : Int)) := by have := HMM.out; omega
          have BW0 := BW
          clear lw BW hlt hg hkk q0
          rcases hq with h1 | ⟨h1, h2⟩
          all_goals
            go_wp2_with fail
            go_meet
            case rel => exact (show Aside _ from BW0.out)
    case rest =>
        obtain ⟨wr, hwr⟩ : ∃ wr, wr = wc := ⟨_, rfl⟩
        rw [← hwr] at hcut ⊢
        have BW0 := hcut
        have LW := hide (bstep L0.out hcut.out)
        clear hcut hwr
        go_upto_region 9 with fail
        refine wp_region_lit ?_
        refine wpList_plain rfl fun K hK => ?_; go_simp; refine hK _ _ ?_; clear hK K
        refine wpList_plain rfl fun K hK => ?_
        refine RowK.wp_app (K := pointK) (.const (.slice none 0 0)) (.tmp 62) rfl _ _ rfl rfl [] os (RowK.Own.nil _) (HOR.out.below LW.out) (by have := HNO.out; simp; omega) ?_
        intro A1 c1 w9 o9 g9 h9
        refine hK _ _ ?_; clear hK K
        simp only [List.nil_append] at o9 ⊢
        have b9 : Below wr.heap.size wr w9 := Below.grown (Below.refl _ _) g9 (Nat.le_refl _) (fun k hk => by cases hk)
        obtain ⟨_, hc1, hh1⟩ := o9.hasS
        rw [← HNO.out] at hc1 ⊢
        have H1 := hide (show (-9223372036854775808 ≤ now ∧ now ≤ 9223372036854775807) ∧ no = os.length ∧ no ≤ 5 ∧ no ≤ c1 ∧ pointK.Has w9 A1 os from ⟨HB.out, HNO.out, by omega, hc1, hh1⟩)
        have B1 := hide (bstep BW0.out b9)
        clear o9 g9 h9 b9 hc1 hh1 BW0 LW
        go_wp2_with fail
        go_loopg [2, 9, 10, 11, 12, 13, 14, 15] 2 (fun gg s2 s9 s10 _ _ _ _ _ wr => ∃ (kk : Nat) (nw : Int) (os2 : List Pt) (n2 : Nat) (A2 : Option Addr) (c2 : Nat), kk ≤ 2 ∧ 2 - kk ≤ gg ∧ s2 = .int .i64 nw ∧ s9 = .slice A2 n2 c2 ∧ s10 = .int .i64 kk ∧ Aside ((-9223372036854775808 ≤ nw ∧ nw ≤ 9223372036854775807) ∧ n2 = os2.length ∧ n2 ≤ 5 ∧ n2 ≤ c2 ∧ pointK.Has wr A2 os2) ∧ Aside (Below w3.heap.size w3 wr))
        case atStart => exact ⟨0, now, os, no, A1, c1, Nat.zero_le _, by omega, rfl, rfl, rfl, (show Aside _ from H1.out), (show Aside _ from B1.out)⟩
        case round =>
          clear H1 B1
          obtain ⟨kk, nw, os2, n2, A2, c2, hkk, hg, rfl, rfl, rfl, HH, BW⟩ := hrel
          have lw := bstep L0.out BW.out
          by_cases hlt : kk < 2
          · have hltz : (kk : Int) < 2 := by omega
            obtain ⟨hnw, hn2, hn5, hc2, hh2⟩ := HH.out
            have hn2z : (n2 : Int) ≤ 5 := by omega
            have hp := HPP.out; have hn := HN.out; have hc := HC.out; have hcq := HCQ.out
            obtain ⟨E, hE⟩ : ∃ E, makeV q os2 nw = E := ⟨_, rfl⟩
            obtain ⟨m, hm⟩ : ∃ m, m = E.1.hs.length := ⟨_, rfl⟩
            have hm4 : m ≤ 4 := by
              have h1 := makeV_len q os2 nw
              rw [hE, ← hm] at h1
              omega
            have hmz : (m : Int) ≤ 4 := by omega
            have cm := fun W (hW2 : Below wr.heap.size wr W) => (b_Make W q A A2 n c n2 c2 os2 nw hn (HA.out.below (bstep lw hW2)) hn2 (hh2.below hW2) (by omega) (by omega) hc hc2 (HT.out.below (bstep lw hW2)) (HW.out.below (bstep lw hW2)) hp hnw).mono (fun e w' h => (Made.gave (m := m) (by rw [hE]; exact hm) h))
            have cdm := fun W (hW2 : Below wr.heap.size wr W) => (d_Make W q Aq A2 n cq n2 c2 os2 nw hn (HQ.out.below (bstep BW.out hW2)) hn2 (hh2.below hW2) (by omega) (by omega) hcq hc2 hnw).mono (fun e w' h => (Made.gave (m := m) (by rw [hE]; exact hm) h))
            have cdo := fun W Ah ch (h1 : holdK.Has W Ah E.1.hs) (h2 : m ≤ ch) => l_Doc2 W E.1 Ah m ch hm h1 (by omega) h2
            have csa := fun W Ad cd Ae ce (h1 : dholdK.Has W Ad E.1.hs) (h2 : dholdK.Has W Ae E.1.hs) (h3 : m ≤ cd) (h4 : m ≤ ce) => d_Same W E.1 Ad Ae m cd ce hm h1 h2 (by omega) h3 h4
            rw [hE] at cm cdm
            unfold Gave at cm cdm
            simp only [Ent.cells] at cm cdm cdo
            have CM := hide cm; have CDM := hide cdm; have CDO := hide cdo; have CSA := hide csa
            have e0 := Cells.below BW.out D0.out; have e7 := Cells.below BW.out D7.out
            clear cm cdm cdo csa hnw hn2 hn5 hc2 hh2 hp hn hc hcq hE hm hm4 HH
            have qe0_0 : ∀ W', Below wr.heap.size wr W' → World.cell? W' ⟨w.heap.size, 0, none⟩ = some (.int .u8 q.x.p) := fun W' h => Cells.at_ (Cells.below h e0) 0
            have qe0_1 : ∀ W', Below wr.heap.size wr W' → World.cell? W' ⟨w.heap.size, 1, none⟩ = some (.int .u32 q.x.si) := fun W' h => Cells.at_ (Cells.below h e0) 1
            have qe0_2 : ∀ W', Below wr.heap.size wr W' → World.cell? W' ⟨w.heap.size, 2, none⟩ = some (.int .u16 q.x.sp) := fun W' h => Cells.at_ (Cells.below h e0) 2
            have qe0_3 : ∀ W', Below wr.heap.size wr W' → World.cell? W' ⟨w.heap.size, 3, none⟩ = some (.int .u32 q.x.di) := fun W' h => Cells.at_ (Cells.below h e0) 3
            have qe0_4 : ∀ W', Below wr.heap.size wr W' → World.cell? W' ⟨w.heap.size, 4, none⟩ = some (.int .u16 q.x.dp) := fun W' h => Cells.at_ (Cells.below h e0) 4
            have qe0_5 : ∀ W', Below wr.heap.size wr W' → World.cell? W' ⟨w.heap.size, 5, none⟩ = some (.int .u32 q.di) := fun W' h => Cells.at_ (Cells.below h e0) 5
            have qe0_6 : ∀ W', Below wr.heap.size wr W' → World.cell? W' ⟨w.heap.size, 6, none⟩ = some (.int .u16 q.dp) := fun W' h => Cells.at_ (Cells.below h e0) 6
            have qe0_7 : ∀ W', Below wr.heap.size wr W' → World.cell? W' ⟨w.heap.size, 7, none⟩ = some (.bool q.src) := fun W' h => Cells.at_ (Cells.below h e0) 7
            have qe0_8 : ∀ W', Below wr.heap.size wr W' → World.cell? W' ⟨w.heap.size, 8, none⟩ = some (.int .i64 q.st) := fun W' h => Cells.at_ (Cells.below h e0) 8
            have qe0_9 : ∀ W', Below wr.heap.size wr W' → World.cell? W' ⟨w.heap.size, 9, none⟩ = some (.slice A n c) := fun W' h => Cells.at_ (Cells.below h e0) 9
            have bb : Below wr.heap.size wr wr := Below.refl _ _
            have E0 := hide e0; have E7 := hide e7; have LW := hide lw; have BW0 := BW
            clear e0 e7 lw BW
            go_upto_region 14 with (go_at_call 8; (refine (CM.out _ (by assumption)).mono ?_); rintro e wm ⟨Ah, ch, rfl, hh, hch, bm⟩)
            have nn := Cells.new wm #[.int .u8 E.1.o.p, .int .u32 E.1.o.si, .int .u16 E.1.o.sp, .int .u32 E.1.o.di, .int .u16 E.1.o.dp, .int .u8 E.1.r.p, .int .u32 E.1.r.si, .int .u16 E.1.r.sp, .int .u32 E.1.r.di, .int .u16 E.1.r.dp, .int .i64 E.1.st, .int .i64 E.1.dl, .slice Ah m ch] 45
            have bn : Below wr.heap.size wr (wm.alloc (.cells #[.int .u8 E.1.o.p, .int .u32 E.1.o.si, .int .u16 E.1.o.sp, .int .u32 E.1.o.di, .int .u16 E.1.o.dp, .int .u8 E.1.r.p, .int .u32 E.1.r.si, .int .u16 E.1.r.sp, .int .u32 E.1.r.di, .int .u16 E.1.r.dp, .int .i64 E.1.st, .int .i64 E.1.dl, .slice Ah m ch] 45)) := bstep bm (fresh_below _ _)
            have HH1 := hide (hh.below (fresh_below wm (.cells #[.int .u8 E.1.o.p, .int .u32 E.1.o.si, .int .u16 E.1.o.sp, .int .u32 E.1.o.di, .int .u16 E.1.o.dp, .int .u8 E.1.r.p, .int .u32 E.1.r.si, .int .u16 E.1.r.sp, .int .u32 E.1.r.di, .int .u16 E.1.r.dp, .int .i64 E.1.st, .int .i64 E.1.dl, .slice Ah m ch] 45))); have HCH := hide hch
            have F7 := hide (Cells.below bn E7.out)
            have BN := hide bn
            clear bb qe0_0 qe0_1 qe0_2 qe0_3 qe0_4 qe0_5 qe0_6 qe0_7 qe0_8 qe0_9 bm hh hch CM E0 bn
            generalize wm.heap.size = g11 at nn ⊢
            generalize (wm.alloc (.cells #[.int .u8 E.1.o.p, .int .u32 E.1.o.si, .int .u16 E.1.o.sp, .int .u32 E.1.o.di, .int .u16 E.1.o.dp, .int .u8 E.1.r.p, .int .u32 E.1.r.si, .int .u16 E.1.r.sp, .int .u32 E.1.r.di, .int .u16 E.1.r.dp, .int .i64 E.1.st, .int .i64 E.1.dl, .slice Ah m ch] 45)) = w5 at *
            have D11 := hide nn
            clear nn
            have f7 := F7.out
            have qf7_0 : ∀ W', Below w5.heap.size w5 W' → World.cell? W' ⟨g7, 0, none⟩ = some (.int .u8 q.x.p) := fun W' h => Cells.at_ (Cells.below h f7) 0
            have qf7_1 : ∀ W', Below w5.heap.size w5 W' → World.cell? W' ⟨g7, 1, none⟩ = some (.int .u32 q.x.si) := fun W' h => Cells.at_ (Cells.below h f7) 1
            have qf7_2 : ∀ W', Below w5.heap.size w5 W' → World.cell? W' ⟨g7, 2, none⟩ = some (.int .u16 q.x.sp) := fun W' h => Cells.at_ (Cells.below h f7) 2
            have qf7_3 : ∀ W', Below w5.heap.size w5 W' → World.cell? W' ⟨g7, 3, none⟩ = some (.int .u32 q.x.di) := fun W' h => Cells.at_ (Cells.below h f7) 3
            have qf7_4 : ∀ W', Below w5.heap.size w5 W' → World.cell? W' ⟨g7, 4, none⟩ = some (.int .u16 q.x.dp) := fun W' h => Cells.at_ (Cells.below h f7) 4
            have qf7_5 : ∀ W', Below w5.heap.size w5 W' → World.cell? W' ⟨g7, 5, none⟩ = some (.int .u32 q.di) := fun W' h => Cells.at_ (Cells.below h f7) 5
            have qf7_6 : ∀ W', Below w5.heap.size w5 W' → World.cell? W' ⟨g7, 6, none⟩ = some (.int .u16 q.dp) := fun W' h => Cells.at_ (Cells.below h f7) 6
            have qf7_7 : ∀ W', Below w5.heap.size w5 W' → World.cell? W' ⟨g7, 7, none⟩ = some (.bool q.src) := fun W' h => Cells.at_ (Cells.below h f7) 7
            have qf7_8 : ∀ W', Below w5.heap.size w5 W' → World.cell? W' ⟨g7, 8, none⟩ = some (.int .i64 q.st) := fun W' h => Cells.at_ (Cells.below h f7) 8
            have qf7_9 : ∀ W', Below w5.heap.size w5 W' → World.cell? W' ⟨g7, 9, none⟩ = some (.slice Aq n cq) := fun W' h => Cells.at_ (Cells.below h f7) 9
            have bb : Below w5.heap.size w5 w5 := Below.refl _ _
            have CDM5 := hide (fun W (hW2 : Below w5.heap.size w5 W) => CDM.out W (bstep BN.out hW2))
            clear CDM f7
            go_upto_region 15 with (go_at_call 9; (refine (CDM5.out _ (by assumption)).mono ?_); rintro e wm ⟨Ae, ce, rfl, he, hce, bm⟩)
            have nn := Cells.new wm #[.int .u8 E.1.o.p, .int .u32 E.1.o.si, .int .u16 E.1.o.sp, .int .u32 E.1.o.di, .int .u16 E.1.o.dp, .int .u8 E.1.r.p, .int .u32 E.1.r.si, .int .u16 E.1.r.sp, .int .u32 E.1.r.di, .int .u16 E.1.r.dp, .int .i64 E.1.st, .int .i64 E.1.dl, .slice Ae m ce] 51
            have bn : Below w5.heap.size w5 (wm.alloc (.cells #[.int .u8 E.1.o.p, .int .u32 E.1.o.si, .int .u16 E.1.o.sp, .int .u32 E.1.o.di, .int .u16 E.1.o.dp, .int .u8 E.1.r.p, .int .u32 E.1.r.si, .int .u16 E.1.r.sp, .int .u32 E.1.r.di, .int .u16 E.1.r.dp, .int .i64 E.1.st, .int .i64 E.1.dl, .slice Ae m ce] 51)) := bstep bm (fresh_below _ _)
            have HE1 := hide (he.below (fresh_below wm (.cells #[.int .u8 E.1.o.p, .int .u32 E.1.o.si, .int .u16 E.1.o.sp, .int .u32 E.1.o.di, .int .u16 E.1.o.dp, .int .u8 E.1.r.p, .int .u32 E.1.r.si, .int .u16 E.1.r.sp, .int .u32 E.1.r.di, .int .u16 E.1.r.dp, .int .i64 E.1.st, .int .i64 E.1.dl, .slice Ae m ce] 51))); have HCE := hide hce
            have G7 := hide (Cells.below bn F7.out); have G11 := hide (Cells.below bn D11.out)
            have HH2 := hide (HH1.out.below bn)
            have BM := hide (bstep BN.out bn)
            clear bb qf7_0 qf7_1 qf7_2 qf7_3 qf7_4 qf7_5 qf7_6 qf7_7 qf7_8 qf7_9 bm he hce CDM5 F7 E7 D11 HH1 BN bn
            generalize wm.heap.size = g13 at nn ⊢
            generalize (wm.alloc (.cells #[.int .u8 E.1.o.p, .int .u32 E.1.o.si, .int .u16 E.1.o.sp, .int .u32 E.1.o.di, .int .u16 E.1.o.dp, .int .u8 E.1.r.p, .int .u32 E.1.r.si, .int .u16 E.1.r.sp, .int .u32 E.1.r.di, .int .u16 E.1.r.dp, .int .i64 E.1.st, .int .i64 E.1.dl, .slice Ae m ce] 51)) = w6 at *
            have g11c := G11.out; have g13c := nn
            have qg11c_0 : ∀ W', Below w6.heap.size w6 W' → World.cell? W' ⟨g11, 0, none⟩ = some (.int .u8 E.1.o.p) := fun W' h => Cells.at_ (Cells.below h g11c) 0
            have qg11c_1 : ∀ W', Below w6.heap.size w6 W' → World.cell? W' ⟨g11, 1, none⟩ = some (.int .u32 E.1.o.si) := fun W' h => Cells.at_ (Cells.below h g11c) 1
            have qg11c_2 : ∀ W', Below w6.heap.size w6 W' → World.cell? W' ⟨g11, 2, none⟩ = some (.int .u16 E.1.o.sp) := fun W' h => Cells.at_ (Cells.below h g11c) 2
            have qg11c_3 : ∀ W', Below w6.heap.size w6 W' → World.cell? W' ⟨g11, 3, none⟩ = some (.int .u32 E.1.o.di) := fun W' h => Cells.at_ (Cells.below h g11c) 3
            have qg11c_4 : ∀ W', Below w6.heap.size w6 W' → World.cell? W' ⟨g11, 4, none⟩ = some (.int .u16 E.1.o.dp) := fun W' h => Cells.at_ (Cells.below h g11c) 4
            have qg11c_5 : ∀ W', Below w6.heap.size w6 W' → World.cell? W' ⟨g11, 5, none⟩ = some (.int .u8 E.1.r.p) := fun W' h => Cells.at_ (Cells.below h g11c) 5
            have qg11c_6 : ∀ W', Below w6.heap.size w6 W' → World.cell? W' ⟨g11, 6, none⟩ = some (.int .u32 E.1.r.si) := fun W' h => Cells.at_ (Cells.below h g11c) 6
            have qg11c_7 : ∀ W', Below w6.heap.size w6 W' → World.cell? W' ⟨g11, 7, none⟩ = some (.int .u16 E.1.r.sp) := fun W' h => Cells.at_ (Cells.below h g11c) 7
            have qg11c_8 : ∀ W', Below w6.heap.size w6 W' → World.cell? W' ⟨g11, 8, none⟩ = some (.int .u32 E.1.r.di) := fun W' h => Cells.at_ (Cells.below h g11c) 8
            have qg11c_9 : ∀ W', Below w6.heap.size w6 W' → World.cell? W' ⟨g11, 9, none⟩ = some (.int .u16 E.1.r.dp) := fun W' h => Cells.at_ (Cells.below h g11c) 9
            have qg11c_10 : ∀ W', Below w6.heap.size w6 W' → World.cell? W' ⟨g11, 10, none⟩ = some (.int .i64 E.1.st) := fun W' h => Cells.at_ (Cells.below h g11c) 10
            have qg11c_11 : ∀ W', Below w6.heap.size w6 W' → World.cell? W' ⟨g11, 11, none⟩ = some (.int .i64 E.1.dl) := fun W' h => Cells.at_ (Cells.below h g11c) 11
            have qg11c_12 : ∀ W', Below w6.heap.size w6 W' → World.cell? W' ⟨g11, 12, none⟩ = some (.slice Ah m ch) := fun W' h => Cells.at_ (Cells.below h g11c) 12
            have qg13c_0 : ∀ W', Below w6.heap.size w6 W' → World.cell? W' ⟨g13, 0, none⟩ = some (.int .u8 E.1.o.p) := fun W' h => Cells.at_ (Cells.below h g13c) 0
            have qg13c_1 : ∀ W', Below w6.heap.size w6 W' → World.cell? W' ⟨g13, 1, none⟩ = some (.int .u32 E.1.o.si) := fun W' h => Cells.at_ (Cells.below h g13c) 1
            have qg13c_2 : ∀ W', Below w6.heap.size w6 W' → World.cell? W' ⟨g13, 2, none⟩ = some (.int .u16 E.1.o.sp) := fun W' h => Cells.at_ (Cells.below h g13c) 2
            have qg13c_3 : ∀ W', Below w6.heap.size w6 W' → World.cell? W' ⟨g13, 3, none⟩ = some (.int .u32 E.1.o.di) := fun W' h => Cells.at_ (Cells.below h g13c) 3
            have qg13c_4 : ∀ W', Below w6.heap.size w6 W' → World.cell? W' ⟨g13, 4, none⟩ = some (.int .u16 E.1.o.dp) := fun W' h => Cells.at_ (Cells.below h g13c) 4
            have qg13c_5 : ∀ W', Below w6.heap.size w6 W' → World.cell? W' ⟨g13, 5, none⟩ = some (.int .u8 E.1.r.p) := fun W' h => Cells.at_ (Cells.below h g13c) 5
            have qg13c_6 : ∀ W', Below w6.heap.size w6 W' → World.cell? W' ⟨g13, 6, none⟩ = some (.int .u32 E.1.r.si) := fun W' h => Cells.at_ (Cells.below h g13c) 6
            have qg13c_7 : ∀ W', Below w6.heap.size w6 W' → World.cell? W' ⟨g13, 7, none⟩ = some (.int .u16 E.1.r.sp) := fun W' h => Cells.at_ (Cells.below h g13c) 7
            have qg13c_8 : ∀ W', Below w6.heap.size w6 W' → World.cell? W' ⟨g13, 8, none⟩ = some (.int .u32 E.1.r.di) := fun W' h => Cells.at_ (Cells.below h g13c) 8
            have qg13c_9 : ∀ W', Below w6.heap.size w6 W' → World.cell? W' ⟨g13, 9, none⟩ = some (.int .u16 E.1.r.dp) := fun W' h => Cells.at_ (Cells.below h g13c) 9
            have qg13c_10 : ∀ W', Below w6.heap.size w6 W' → World.cell? W' ⟨g13, 10, none⟩ = some (.int .i64 E.1.st) := fun W' h => Cells.at_ (Cells.below h g13c) 10
            have qg13c_11 : ∀ W', Below w6.heap.size w6 W' → World.cell? W' ⟨g13, 11, none⟩ = some (.int .i64 E.1.dl) := fun W' h => Cells.at_ (Cells.below h g13c) 11
            have qg13c_12 : ∀ W', Below w6.heap.size w6 W' → World.cell? W' ⟨g13, 12, none⟩ = some (.slice Ae m ce) := fun W' h => Cells.at_ (Cells.below h g13c) 12
            clear g11c g13c G11 nn
            have hee : (E.2 != E.2) = false := by simp
            have bb : Below w6.heap.size w6 w6 := Below.refl _ _
            have s15 : Below w6.heap.size w6 w6.drew := Below.drew bb
            focus
              refine wp_region_J [] (fun W => Below w6.heap.size w6 W) (by kernel_rfl) (s15) (fun hS0 => ?_)
              obtain ⟨hG, hsel⟩ := okOps (md := .any) (ops := #[{ dst := some 82 , op := Go.Op.move ( Go.Operand.tmp 12 ) , type := 46 , pos := "law.go:154" , after := #[ ] , guard := none }, { dst := some 83 , op := Go.Op.move ( Go.Operand.tmp 14 ) , type := 46 , pos := "law.go:154" , after := #[ ] , guard := none }, { dst := some 84 , op := Go.Op.binOp Go.BinOp.neq 46 ( Go.Operand.tmp 82 ) ( Go.Operand.tmp 83 ) 46 , type := 4 , pos := "law.go:154" , after := #[ { on := 0 , ground := Go.Ground.data } , { on := 1 , ground := Go.Ground.data } ] , guard := none }, { dst := some 85 , op := Go.Op.move ( Go.Operand.tmp 84 ) , type := 4 , pos := "law.go:154" , after := #[ { on := 2 , ground := Go.Ground.data } ] , guard := none }, { dst := some 86 , op := Go.Op.load 45 ( Go.Operand.tmp 11 ) , type := 45 , pos := "law.go:154" , after := #[ { on := 3 , ground := Go.Ground.guard } ] , guard := some ( 3 , false ) }, { dst := some 87 , op := Go.Op.call { callee := Go.Callee.value ( Go.Operand.func 11 ) , args := #[ Go.Operand.tmp 86 ] , argTypes := #[ 45 ] } , type := 51 , pos := "law.go:154" , after := #[ { on := 4 , ground := Go.Ground.data } , { on := 3 , ground := Go.Ground.chain } , { on := 3 , ground := Go.Ground.guard } ] , guard := some ( 3 , false ) }, { dst := some 88 , op := Go.Op.load 51 ( Go.Operand.tmp 13 ) , type := 51 , pos := "law.go:154" , after := #[ { on := 3 , ground := Go.Ground.guard } ] , guard := some ( 3 , false ) }, { dst := some 89 , op := Go.Op.call { callee := Go.Callee.value ( Go.Operand.func 10 ) , args := #[ Go.Operand.tmp 87 , Go.Operand.tmp 88 ] , argTypes := #[ 51 , 51 ] } , type := 4 , pos := "law.go:154" , after := #[ { on := 5 , ground := Go.Ground.data } , { on := 6 , ground := Go.Ground.data } , { on := 5 , ground := Go.Ground.chain } , { on := 3 , ground := Go.Ground.guard } ] , guard := some ( 3 , false ) }, { dst := some 90 , op := Go.Op.unOp Go.UnOp.not 4 ( Go.Operand.tmp 89 ) , type := 4 , pos := "law.go:154" , after := #[ { on := 7 , ground := Go.Ground.data } , { on := 3 , ground := Go.Ground.guard } ] , guard := some ( 3 , false ) }, { dst := some 91 , op := Go.Op.pick ( Go.Operand.tmp 85 ) ( Go.Operand.const ( Go.Value.bool true ) ) ( Go.Operand.tmp 90 ) , type := 4 , pos := "law.go:154" , after := #[ { on := 3 , ground := Go.Ground.data } , { on := 8 , ground := Go.Ground.data } ] , guard := none }]) (by kernel_rfl)
              refine wpAnyJ_takeG (i := 0) (oi := { dst := some 82 , op := Go.Op.move ( Go.Operand.tmp 12 ) , type := 46 , pos := "law.go:154" , after := #[ ] , guard := none }) (v := ?v0_20) hG hsel (by kernel_rfl) (by kernel_rfl) (by kernel_rfl) (by kernel_rfl) (fun _ _ _ h => h) (Or.inl (And.intro (by kernel_rfl) ?q0_20)) hS0 ?r0_20
              case q0_20 => intro w hx; refine run_env [12] [?a0_20_12] (by kernel_rfl) (by kernel_rfl) (⟨?e0_20_12, trivial⟩) ?h0_20; (case e0_20_12 => ((conv => lhs; whnf); (try exact rfl))); (case h0_20 => ((try dsimp only); (try simp only [envL, lookV, if_true, if_false]); (try go_simp); (try with_reducible rfl)))
              (try simp only [Act.put, List.setIfInBounds_toArray, List.set_cons_zero, List.set_cons_succ, List.getElem_toArray, List.getElem_cons_succ, List.getElem_cons_zero])
              refine wpAnyJ_takeG (i := 1) (oi := { dst := some 83 , op := Go.Op.move ( Go.Operand.tmp 14 ) , type := 46 , pos := "law.go:154" , after := #[ ] , guard := none }) (v := ?v1_21) hG hsel (by kernel_rfl) (by kernel_rfl) (by kernel_rfl) (by kernel_rfl) (fun _ _ _ h => h) (Or.inl (And.intro (by kernel_rfl) ?q1_21)) hS0 ?r1_21
              case q1_21 => intro w hx; refine run_env [14] [?a1_21_14] (by kernel_rfl) (by kernel_rfl) (⟨?e1_21_14, trivial⟩) ?h1_21; (case e1_21_14 => ((conv => lhs; whnf); (try exact rfl))); (case h1_21 => ((try dsimp only); (try simp only [envL, lookV, if_true, if_false]); (try go_simp); (try with_reducible rfl)))
              (try simp only [Act.put, List.setIfInBounds_toArray, List.set_cons_zero, List.set_cons_succ, List.getElem_toArray, List.getElem_cons_succ, List.getElem_cons_zero])
              refine wpAnyJ_takeG (i := 2) (oi := { dst := some 84 , op := Go.Op.binOp Go.BinOp.neq 46 ( Go.Operand.tmp 82 ) ( Go.Operand.tmp 83 ) 46 , type := 4 , pos := "law.go:154" , after := #[ { on := 0 , ground := Go.Ground.data } , { on := 1 , ground := Go.Ground.data } ] , guard := none }) (v := ?v2_22) hG hsel (by kernel_rfl) (by kernel_rfl) (by kernel_rfl) (by kernel_rfl) (fun _ _ _ h => h) (Or.inl (And.intro (by kernel_rfl) ?q2_22)) hS0 ?r2_22
              case q2_22 => intro w hx; refine run_env [82, 83] [?a2_22_82, ?a2_22_83] (by kernel_rfl) (by kernel_rfl) (⟨?e2_22_82, ?e2_22_83, trivial⟩) ?h2_22; (case e2_22_82 => ((conv => lhs; whnf); (try exact rfl))); (case e2_22_83 => ((conv => lhs; whnf); (try exact rfl))); (case h2_22 => ((try dsimp only); (try simp only [envL, lookV, if_true, if_false]); (try go_simp); (try with_reducible rfl)))
              (try simp only [Act.put, List.setIfInBounds_toArray, List.set_cons_zero, List.set_cons_succ, List.getElem_toArray, List.getElem_cons_succ, List.getElem_cons_zero])
              refine wpAnyJ_takeG (i := 3) (oi := { dst := some 85 , op := Go.Op.move ( Go.Operand.tmp 84 ) , type := 4 , pos := "law.go:154" , after := #[ { on := 2 , ground := Go.Ground.data } ] , guard := none }) (v := ?v3_23) hG hsel (by kernel_rfl) (by kernel_rfl) (by kernel_rfl) (by kernel_rfl) (fun _ _ _ h => h) (Or.inl (And.intro (by kernel_rfl) ?q3_23)) hS0 ?r3_23
              case q3_23 => intro w hx; refine run_env [84] [?a3_23_84] (by kernel_rfl) (by kernel_rfl) (⟨?e3_23_84, trivial⟩) ?h3_23; (case e3_23_84 => ((conv => lhs; whnf); (try exact rfl))); (case h3_23 => ((try dsimp only); (try simp only [envL, lookV, if_true, if_false]); (try go_simp); (try with_reducible rfl)))
              (try simp only [Act.put, List.setIfInBounds_toArray, List.set_cons_zero, List.set_cons_succ, List.getElem_toArray, List.getElem_cons_succ, List.getElem_cons_zero])
              refine wpAnyJ_takeG (i := 4) (oi := { dst := some 86 , op := Go.Op.load 45 ( Go.Operand.tmp 11 ) , type := 45 , pos := "law.go:154" , after := #[ { on := 3 , ground := Go.Ground.guard } ] , guard := some ( 3 , false ) }) (v := ?v4_24) hG hsel (by kernel_rfl) (by kernel_rfl) (by kernel_rfl) (by kernel_rfl) (fun _ _ _ h => h) (Or.inl (And.intro (by kernel_rfl) ?q4_24)) hS0 ?r4_24
              case q4_24 => intro w hx; refine run_env [11] [?a4_24_11] (by kernel_rfl) (by kernel_rfl) (⟨?e4_24_11, trivial⟩) ?h4_24; (case e4_24_11 => ((conv => lhs; whnf); (try exact rfl))); (case h4_24 => ((try dsimp only); (try simp only [envL, lookV, if_true, if_false]); (try go_simp); (try with_reducible rfl)))
              (try simp only [Act.put, List.setIfInBounds_toArray, List.set_cons_zero, List.set_cons_succ, List.getElem_toArray, List.getElem_cons_succ, List.getElem_cons_zero])
              refine wpAnyJ_takeG (i := 6) (oi := { dst := some 88 , op := Go.Op.load 51 ( Go.Operand.tmp 13 ) , type := 51 , pos := "law.go:154" , after := #[ { on := 3 , ground := Go.Ground.guard } ] , guard := some ( 3 , false ) }) (v := ?v6_25) hG hsel (by kernel_rfl) (by kernel_rfl) (by kernel_rfl) (by kernel_rfl) (fun _ _ _ h => h) (Or.inl (And.intro (by kernel_rfl) ?q6_25)) hS0 ?r6_25
              case q6_25 => intro w hx; refine run_env [13] [?a6_25_13] (by kernel_rfl) (by kernel_rfl) (⟨?e6_25_13, trivial⟩) ?h6_25; (case e6_25_13 => ((conv => lhs; whnf); (try exact rfl))); (case h6_25 => ((try dsimp only); (try simp only [envL, lookV, if_true, if_false]); (try go_simp); (try with_reducible rfl)))
              (try simp only [Act.put, List.setIfInBounds_toArray, List.set_cons_zero, List.set_cons_succ, List.getElem_toArray, List.getElem_cons_succ, List.getElem_cons_zero])
              refine wpAnyJ_ready (rs := [5]) (by kernel_rfl) (by simp) ?_
              refine (AllReadyJ.cons rfl (fun K hK => ?_) AllReadyJ.nil)
              rw [if_pos (by kernel_rfl)]
              (try simp only [List.getElem_toArray, List.getElem_cons_succ, List.getElem_cons_zero])
              (focus go_simp)
              (focus ((refine (CDO.out _ _ _ (HH2.out.below hS0) HCH.out).mono ?_); rintro e wq5 ⟨Ad, cd, rfl, hd, hcd, bq5⟩; have sq := bstep hS0 bq5))
              (focus (try go_wp2_with fail))
              refine hK.out _ _ ?hs (fun hS0 => ?_)
              case hs => (first | with_reducible exact hS0 | with_reducible exact sq)
              clear hK K
              (try simp only [Act.put, List.setIfInBounds_toArray, List.set_cons_zero, List.set_cons_succ, List.getElem_toArray, List.getElem_cons_succ, List.getElem_cons_zero])
              refine wpAnyJ_ready (rs := [7]) (by kernel_rfl) (by simp) ?_
              refine (AllReadyJ.cons rfl (fun K hK => ?_) AllReadyJ.nil)
              rw [if_pos (by kernel_rfl)]
              (try simp only [List.getElem_toArray, List.getElem_cons_succ, List.getElem_cons_zero])
              (focus go_simp)
              (focus ((refine (CSA.out _ _ _ _ _ hd (HE1.out.below hS0) hcd HCE.out).mono ?_); rintro e wi ⟨rfl, bq7⟩; have sq := bstep hS0 bq7))
              (focus (try go_wp2_with fail))
              refine hK.out _ _ ?hs (fun hS0 => ?_)
              case hs => (first | with_reducible exact hS0 | with_reducible exact sq)
              clear hK K
              (try simp only [Act.put, List.setIfInBounds_toArray, List.set_cons_zero, List.set_cons_succ, List.getElem_toArray, List.getElem_cons_succ, List.getElem_cons_zero])
              refine wpAnyJ_takeG (i := 8) (oi := { dst := some 90 , op := Go.Op.unOp Go.UnOp.not 4 ( Go.Operand.tmp 89 ) , type := 4 , pos := "law.go:154" , after := #[ { on := 7 , ground := Go.Ground.data } , { on := 3 , ground := Go.Ground.guard } ] , guard := some ( 3 , false ) }) (v := ?v8_26) hG hsel (by kernel_rfl) (by kernel_rfl) (by kernel_rfl) (by kernel_rfl) (fun _ _ _ h => h) (Or.inl (And.intro (by kernel_rfl) ?q8_26)) hS0 ?r8_26
              case q8_26 => intro w hx; refine run_env [89] [?a8_26_89] (by kernel_rfl) (by kernel_rfl) (⟨?e8_26_89, trivial⟩) ?h8_26; (case e8_26_89 => ((conv => lhs; whnf); (try exact rfl))); (case h8_26 => ((try dsimp only); (try simp only [envL, lookV, if_true, if_false]); (try go_simp); (try with_reducible rfl)))
              (try simp only [Act.put, List.setIfInBounds_toArray, List.set_cons_zero, List.set_cons_succ, List.getElem_toArray, List.getElem_cons_succ, List.getElem_cons_zero])
              refine wpAnyJ_takeG (i := 9) (oi := { dst := some 91 , op := Go.Op.pick ( Go.Operand.tmp 85 ) ( Go.Operand.const ( Go.Value.bool true ) ) ( Go.Operand.tmp 90 ) , type := 4 , pos := "law.go:154" , after := #[ { on := 3 , ground := Go.Ground.data } , { on := 8 , ground := Go.Ground.data } ] , guard := none }) (v := ?v9_27) hG hsel (by kernel_rfl) (by kernel_rfl) (by kernel_rfl) (by kernel_rfl) (fun _ _ _ h => h) (Or.inl (And.intro (by kernel_rfl) ?q9_27)) hS0 ?r9_27
              case q9_27 => intro w hx; refine run_env [85, 90] [?a9_27_85, ?a9_27_90] (by kernel_rfl) (by kernel_rfl) (⟨?e9_27_85, ?e9_27_90, trivial⟩) ?h9_27; (case e9_27_85 => ((conv => lhs; whnf); (try exact rfl))); (case e9_27_90 => ((conv => lhs; whnf); (try exact rfl))); (case h9_27 => ((try dsimp only); (try simp only [envL, lookV, if_true, if_false]); (try go_simp); (try with_reducible rfl)))
              (try simp only [Act.put, List.setIfInBounds_toArray, List.set_cons_zero, List.set_cons_succ, List.getElem_toArray, List.getElem_cons_succ, List.getElem_cons_zero])
              refine wpAnyJ_done (by kernel_rfl) ?_ _
            have I7 := hide (Cells.below hS0 G7.out); have BI := hide (bstep BM.out hS0)
            have HQI := hide (HQ.out.below (bstep BW0.out BI.out))
            clear s15 sq bq5 bq7 hd hcd bb hee qg11c_0 qg11c_1 qg11c_2 qg11c_3 qg11c_4 qg11c_5 qg11c_6 qg11c_7 qg11c_8 qg11c_9 qg11c_10 qg11c_11 qg11c_12 qg13c_0 qg13c_1 qg13c_2 qg13c_3 qg13c_4 qg13c_5 qg13c_6 qg13c_7 qg13c_8 qg13c_9 qg13c_10 qg13c_11 qg13c_12 hS0 HE1 HCE HCH HH2 CDO CSA G7 BM
            go_wp2_with fail
            go_loopg [9, 15] n (fun gg s9 s15 wr2 => ∃ (k2 : Nat) (V : Value), k2 ≤ n ∧ n - k2 ≤ gg ∧ s9 = V ∧ s15 = .int .i64 k2 ∧ Aside (pointK.Own wr2 V ((q.ws.take k2).map metOf) ∧ (∀ j, V.ownBlock = some j → wi.heap.size ≤ j) ∧ Below wi.heap.size wi wr2))
            case atStart => exact ⟨0, .slice none 0 0, Nat.zero_le _, by omega, rfl, rfl, (show Aside _ from ⟨RowK.Own.nil _, (fun j e => by cases e), Below.refl _ wi⟩)⟩
            case round =>
              obtain ⟨k2, V, hk2, hg2, hV9, rfl, GO⟩ := hrel
              have hV8 := hV9.symm
              clear hV9
              subst hV8
              obtain ⟨own, hup, bi⟩ := GO.out
              clear GO
              have e7 := Cells.below bi I7.out
              obtain ⟨F, hF⟩ : ∃ F : Nat → Prop, F = fun j => V.ownBlock = some j := ⟨_, rfl⟩
              have hFi : ∀ j, F j → wi.heap.size ≤ j := fun j e => hup j (by rw [hF] at e; exact e)
              have hg7 : g7 < wi.heap.size := Cells.lt I7.out
              have q7 : ∀ W', Only F wr W' → World.cell? W' ⟨g7, 9, none⟩ = some (.slice Aq n cq) := fun W' hW => (Cells.only e7 hW (fun e => by have := hFi _ e; omega)).at_ 9
              have bb : Only F wr wr := Only.refl _ _
              by_cases hlt2 : k2 < n
              · have hltz2 : (k2 : Int) < (n : Int) := by omega
                have hl : k2 < q.ws.length := by have := HN.out; omega
                obtain ⟨gd, od, hDe, hgd0, hrow0⟩ := HQI.out.at_ hl
                obtain ⟨r, hr⟩ : ∃ r, r = q.ws[k2] := ⟨_, rfl⟩
                rw [← hr] at hrow0
                have HR := hide hr
                clear hr
                subst hDe
                have hgF : ¬ F gd := fun e => by have := hFi _ e; omega
                have hrow : ∀ W', Only F wr W' → ∀ j u, (dwantK.cells r).toList[j]? = some u → W'.cell? ⟨gd, od + k2 * 8 + j, none⟩ = some u := fun W' hW j u hu => (World.cell?_of_block (hW.block gd (Nat.lt_of_lt_of_le hgd0 bi.size) hgF)).trans (hrow0 j u hu wr bi)
                have hmet : metOf r = metOf r := rfl
                have hlen : ∀ x : Pt, ((q.ws.take k2).map metOf ++ [x]).length = k2 + 1 := fun x => by rw [List.length_append, List.length_map, List.length_take, List.length_cons, List.length_nil]; omega
                have HLN := hide hlen
                have hkw : IntKind.i64.wrap ((k2 : Int) + 1) = ((k2 + 1 : Nat) : Int) := by rw [IntWalk.i64_in _ (by omega)]; omega
                have hdk : decide ((k2 : Int) < 0) = false := by rw [decide_eq_false_iff_not]; omega
                have HSN := hide (show (q.ws.take (k2 + 1)).map metOf = (q.ws.take k2).map metOf ++ [metOf r] by rw [List.take_succ_eq_append_getElem hl, List.map_append, HR.out]; rfl)
                clear HR
                obtain ⟨fx, ii, ip, oi, op, ra, rf, rt⟩ := r
                have z0 : ∀ W', Only F wr W' → World.cell? W' ⟨gd, od + k2 * 8, none⟩ = some (.bool fx) := fun W' hW => hrow W' hW 0 _ rfl
                have z1 : ∀ W', Only F wr W' → World.cell? W' ⟨gd, od + k2 * 8 + 1, none⟩ = some (.int .u32 ii) := fun W' hW => hrow W' hW 1 _ rfl
                have z2 : ∀ W', Only F wr W' → World.cell? W' ⟨gd, od + k2 * 8 + 2, none⟩ = some (.int .u16 ip) := fun W' hW => hrow W' hW 2 _ rfl
                have z3 : ∀ W', Only F wr W' → World.cell? W' ⟨gd, od + k2 * 8 + 3, none⟩ = some (.int .u32 oi) := fun W' hW => hrow W' hW 3 _ rfl
                have z4 : ∀ W', Only F wr W' → World.cell? W' ⟨gd, od + k2 * 8 + 4, none⟩ = some (.int .u16 op) := fun W' hW => hrow W' hW 4 _ rfl
                have z5 : ∀ W', Only F wr W' → World.cell? W' ⟨gd, od + k2 * 8 + 5, none⟩ = some (.int .u32 ra) := fun W' hW => hrow W' hW 5 _ rfl
                have z6 : ∀ W', Only F wr W' → World.cell? W' ⟨gd, od + k2 * 8 + 6, none⟩ = some (.int .u16 rf) := fun W' hW => hrow W' hW 6 _ rfl
                have z7 : ∀ W', Only F wr W' → World.cell? W' ⟨gd, od + k2 * 8 + 7, none⟩ = some (.int .u16 rt) := fun W' hW => hrow W' hW 7 _ rfl
                have OWN := hide own; have HFE := hide hF; have BIH := hide bi; have HFI := hide hFi; have HUP := hide hup
                clear own hF bi hFi hup hgF hrow hrow0 hgd0 hmet hlen e7
                cases fx
                · go_upto_region 23 with fail
                  have s23 : Only F wr wr.drew := Only.drew bb
                  focus
                    refine wp_region_J [] (fun W => Only F wr W) (by kernel_rfl) (s23) (fun hS0 => ?_)
                    obtain ⟨hG, hsel⟩ := okOps (md := .any) (ops := #[{ dst := some 114 , op := Go.Op.move ( Go.Operand.tmp 9 ) , type := 32 , pos := "law.go:162" , after := #[ ] , guard := none }, { dst := some 115 , op := Go.Op.fieldAddr 36 ( Go.Operand.tmp 7 ) 4 , type := 0 , pos := "law.go:162" , after := #[ ] , guard := none }, { dst := some 116 , op := Go.Op.load 34 ( Go.Operand.tmp 115 ) , type := 34 , pos := "law.go:162" , after := #[ { on := 1 , ground := Go.Ground.data } ] , guard := none }, { dst := some 117 , op := Go.Op.move ( Go.Operand.tmp 15 ) , type := 3 , pos := "law.go:162" , after := #[ ] , guard := none }, { dst := some 118 , op := Go.Op.indexAddr 34 ( Go.Operand.tmp 116 ) ( Go.Operand.tmp 117 ) , type := 0 , pos := "law.go:162" , after := #[ { on := 2 , ground := Go.Ground.data } , { on := 3 , ground := Go.Ground.data } ] , guard := none }, { dst := some 119 , op := Go.Op.fieldAddr 42 ( Go.Operand.tmp 118 ) 3 , type := 0 , pos := "law.go:162" , after := #[ { on := 4 , ground := Go.Ground.data } ] , guard := none }, { dst := some 120 , op := Go.Op.load 23 ( Go.Operand.tmp 119 ) , type := 23 , pos := "law.go:162" , after := #[ { on := 5 , ground := Go.Ground.data } ] , guard := none }, { dst := some 121 , op := Go.Op.fieldAddr 36 ( Go.Operand.tmp 7 ) 4 , type := 0 , pos := "law.go:162" , after := #[ ] , guard := none }, { dst := some 122 , op := Go.Op.load 34 ( Go.Operand.tmp 121 ) , type := 34 , pos := "law.go:162" , after := #[ { on := 7 , ground := Go.Ground.data } ] , guard := none }, { dst := some 123 , op := Go.Op.move ( Go.Operand.tmp 15 ) , type := 3 , pos := "law.go:162" , after := #[ ] , guard := none }, { dst := some 124 , op := Go.Op.indexAddr 34 ( Go.Operand.tmp 122 ) ( Go.Operand.tmp 123 ) , type := 0 , pos := "law.go:162" , after := #[ { on := 8 , ground := Go.Ground.data } , { on := 9 , ground := Go.Ground.data } ] , guard := none }, { dst := some 125 , op := Go.Op.fieldAddr 42 ( Go.Operand.tmp 124 ) 4 , type := 0 , pos := "law.go:162" , after := #[ { on := 10 , ground := Go.Ground.data } ] , guard := none }, { dst := some 126 , op := Go.Op.load 24 ( Go.Operand.tmp 125 ) , type := 24 , pos := "law.go:162" , after := #[ { on := 11 , ground := Go.Ground.data } ] , guard := none }, { dst := some 127 , op := Go.Op.build 26 #[ ( 0 , Go.Operand.tmp 120 ) , ( 1 , Go.Operand.tmp 126 ) ] , type := 26 , pos := "law.go:162" , after := #[ { on := 6 , ground := Go.Ground.data } , { on := 12 , ground := Go.Ground.data } ] , guard := none }, { dst := some 128 , op := Go.Op.buildSlice 32 1 #[ ( 0 , Go.Operand.tmp 127 ) ] , type := 32 , pos := "law.go:162" , after := #[ { on := 13 , ground := Go.Ground.data } ] , guard := none }, { dst := some 129 , op := Go.Op.call { callee := Go.Callee.builtin Go.Builtin.append , args := #[ Go.Operand.tmp 114 , Go.Operand.tmp 128 ] , argTypes := #[ 32 , 32 ] } , type := 32 , pos := "law.go:162" , after := #[ { on := 0 , ground := Go.Ground.data } , { on := 14 , ground := Go.Ground.data } ] , guard := none }, { dst := some 9 , op := Go.Op.assign ( Go.Operand.tmp 129 ) , type := 32 , pos := "law.go:162" , after := #[ { on := 15 , ground := Go.Ground.data } , { on := 15 , ground := Go.Ground.chain } , { on := 0 , ground := Go.Ground.phase } , { on := 1 , ground := Go.Ground.phase } , { on := 2 , ground := Go.Ground.phase } , { on := 3 , ground := Go.Ground.phase } , { on := 4 , ground := Go.Ground.phase } , { on := 5 , ground := Go.Ground.phase } , { on := 6 , ground := Go.Ground.phase } , { on := 7 , ground := Go.Ground.phase } , { on := 8 , ground := Go.Ground.phase } , { on := 9 , ground := Go.Ground.phase } , { on := 10 , ground := Go.Ground.phase } , { on := 11 , ground := Go.Ground.phase } , { on := 12 , ground := Go.Ground.phase } , { on := 13 , ground := Go.Ground.phase } , { on := 14 , ground := Go.Ground.phase } , { on := 15 , ground := Go.Ground.phase } ] , guard := none }]) (by kernel_rfl)
                    refine wpAnyJ_takeG (i := 0) (oi := { dst := some 114 , op := Go.Op.move ( Go.Operand.tmp 9 ) , type := 32 , pos := "law.go:162" , after := #[ ] , guard := none }) (v := ?v0_28) hG hsel (by kernel_rfl) (by kernel_rfl) (by kernel_rfl) (by kernel_rfl) (fun _ _ _ h => h) (Or.inl (And.intro (by kernel_rfl) ?q0_28)) hS0 ?r0_28
                    case q0_28 => intro w hx; refine run_env [9] [?a0_28_9] (by kernel_rfl) (by kernel_rfl) (⟨?e0_28_9, trivial⟩) ?h0_28; (case e0_28_9 => ((conv => lhs; whnf); (try exact rfl))); (case h0_28 => ((try dsimp only); (try simp only [envL, lookV, if_true, if_false]); (try go_simp); (try with_reducible rfl)))
                    (try simp only [Act.put, List.setIfInBounds_toArray, List.set_cons_zero, List.set_cons_succ, List.getElem_toArray, List.getElem_cons_succ, List.getElem_cons_zero])
                    refine wpAnyJ_takeG (i := 1) (oi := { dst := some 115 , op := Go.Op.fieldAddr 36 ( Go.Operand.tmp 7 ) 4 , type := 0 , pos := "law.go:162" , after := #[ ] , guard := none }) (v := ?v1_29) hG hsel (by kernel_rfl) (by kernel_rfl) (by kernel_rfl) (by kernel_rfl) (fun _ _ _ h => h) (Or.inl (And.intro (by kernel_rfl) ?q1_29)) hS0 ?r1_29
                    case q1_29 => intro w hx; refine run_env [7] [?a1_29_7] (by kernel_rfl) (by kernel_rfl) (⟨?e1_29_7, trivial⟩) ?h1_29; (case e1_29_7 => ((conv => lhs; whnf); (try exact rfl))); (case h1_29 => ((try dsimp only); (try simp only [envL, lookV, if_true, if_false]); (try go_simp); (try with_reducible rfl)))
                    (try simp only [Act.put, List.setIfInBounds_toArray, List.set_cons_zero, List.set_cons_succ, List.getElem_toArray, List.getElem_cons_succ, List.getElem_cons_zero])
                    refine wpAnyJ_takeG (i := 2) (oi := { dst := some 116 , op := Go.Op.load 34 ( Go.Operand.tmp 115 ) , type := 34 , pos := "law.go:162" , after := #[ { on := 1 , ground := Go.Ground.data } ] , guard := none }) (v := ?v2_30) hG hsel (by kernel_rfl) (by kernel_rfl) (by kernel_rfl) (by kernel_rfl) (fun _ _ _ h => h) (Or.inl (And.intro (by kernel_rfl) ?q2_30)) hS0 ?r2_30
                    case q2_30 => intro w hx; refine run_env [115] [?a2_30_115] (by kernel_rfl) (by kernel_rfl) (⟨?e2_30_115, trivial⟩) ?h2_30; (case e2_30_115 => ((conv => lhs; whnf); (try exact rfl))); (case h2_30 => ((try dsimp only); (try simp only [envL, lookV, if_true, if_false]); (try go_simp); (try with_reducible rfl)))
                    (try simp only [Act.put, List.setIfInBounds_toArray, List.set_cons_zero, List.set_cons_succ, List.getElem_toArray, List.getElem_cons_succ, List.getElem_cons_zero])
                    refine wpAnyJ_takeG (i := 3) (oi := { dst := some 117 , op := Go.Op.move ( Go.Operand.tmp 15 ) , type := 3 , pos := "law.go:162" , after := #[ ] , guard := none }) (v := ?v3_31) hG hsel (by kernel_rfl) (by kernel_rfl) (by kernel_rfl) (by kernel_rfl) (fun _ _ _ h => h) (Or.inl (And.intro (by kernel_rfl) ?q3_31)) hS0 ?r3_31
                    case q3_31 => intro w hx; refine run_env [15] [?a3_31_15] (by kernel_rfl) (by kernel_rfl) (⟨?e3_31_15, trivial⟩) ?h3_31; (case e3_31_15 => ((conv => lhs; whnf); (try exact rfl))); (case h3_31 => ((try dsimp only); (try simp only [envL, lookV, if_true, if_false]); (try go_simp); (try with_reducible rfl)))
                    (try simp only [Act.put, List.setIfInBounds_toArray, List.set_cons_zero, List.set_cons_succ, List.getElem_toArray, List.getElem_cons_succ, List.getElem_cons_zero])
                    refine wpAnyJ_takeG (i := 4) (oi := { dst := some 118 , op := Go.Op.indexAddr 34 ( Go.Operand.tmp 116 ) ( Go.Operand.tmp 117 ) , type := 0 , pos := "law.go:162" , after := #[ { on := 2 , ground := Go.Ground.data } , { on := 3 , ground := Go.Ground.data } ] , guard := none }) (v := ?v4_32) hG hsel (by kernel_rfl) (by kernel_rfl) (by kernel_rfl) (by kernel_rfl) (fun _ _ _ h => h) (Or.inl (And.intro (by kernel_rfl) ?q4_32)) hS0 ?r4_32
                    case q4_32 => intro w hx; refine run_env [116, 117] [?a4_32_116, ?a4_32_117] (by kernel_rfl) (by kernel_rfl) (⟨?e4_32_116, ?e4_32_117, trivial⟩) ?h4_32; (case e4_32_116 => ((conv => lhs; whnf); (try exact rfl))); (case e4_32_117 => ((conv => lhs; whnf); (try exact rfl))); (case h4_32 => ((try dsimp only); (try simp only [envL, lookV, if_true, if_false]); (try go_simp); (try with_reducible rfl)))
                    (try simp only [Act.put, List.setIfInBounds_toArray, List.set_cons_zero, List.set_cons_succ, List.getElem_toArray, List.getElem_cons_succ, List.getElem_cons_zero])
                    refine wpAnyJ_takeG (i := 5) (oi := { dst := some 119 , op := Go.Op.fieldAddr 42 ( Go.Operand.tmp 118 ) 3 , type := 0 , pos := "law.go:162" , after := #[ { on := 4 , ground := Go.Ground.data } ] , guard := none }) (v := ?v5_33) hG hsel (by kernel_rfl) (by kernel_rfl) (by kernel_rfl) (by kernel_rfl) (fun _ _ _ h => h) (Or.inl (And.intro (by kernel_rfl) ?q5_33)) hS0 ?r5_33
                    case q5_33 => intro w hx; refine run_env [118] [?a5_33_118] (by kernel_rfl) (by kernel_rfl) (⟨?e5_33_118, trivial⟩) ?h5_33; (case e5_33_118 => ((conv => lhs; whnf); (try exact rfl))); (case h5_33 => ((try dsimp only); (try simp only [envL, lookV, if_true, if_false]); (try go_simp); (try with_reducible rfl)))
                    (try simp only [Act.put, List.setIfInBounds_toArray, List.set_cons_zero, List.set_cons_succ, List.getElem_toArray, List.getElem_cons_succ, List.getElem_cons_zero])
                    refine wpAnyJ_takeG (i := 6) (oi := { dst := some 120 , op := Go.Op.load 23 ( Go.Operand.tmp 119 ) , type := 23 , pos := "law.go:162" , after := #[ { on := 5 , ground := Go.Ground.data } ] , guard := none }) (v := ?v6_34) hG hsel (by kernel_rfl) (by kernel_rfl) (by kernel_rfl) (by kernel_rfl) (fun _ _ _ h => h) (Or.inl (And.intro (by kernel_rfl) ?q6_34)) hS0 ?r6_34
                    case q6_34 => intro w hx; refine run_env [119] [?a6_34_119] (by kernel_rfl) (by kernel_rfl) (⟨?e6_34_119, trivial⟩) ?h6_34; (case e6_34_119 => ((conv => lhs; whnf); (try exact rfl))); (case h6_34 => ((try dsimp only); (try simp only [envL, lookV, if_true, if_false]); (try go_simp); (try with_reducible rfl)))
                    (try simp only [Act.put, List.setIfInBounds_toArray, List.set_cons_zero, List.set_cons_succ, List.getElem_toArray, List.getElem_cons_succ, List.getElem_cons_zero])
                    refine wpAnyJ_takeG (i := 7) (oi := { dst := some 121 , op := Go.Op.fieldAddr 36 ( Go.Operand.tmp 7 ) 4 , type := 0 , pos := "law.go:162" , after := #[ ] , guard := none }) (v := ?v7_35) hG hsel (by kernel_rfl) (by kernel_rfl) (by kernel_rfl) (by kernel_rfl) (fun _ _ _ h => h) (Or.inl (And.intro (by kernel_rfl) ?q7_35)) hS0 ?r7_35
                    case q7_35 => intro w hx; refine run_env [7] [?a7_35_7] (by kernel_rfl) (by kernel_rfl) (⟨?e7_35_7, trivial⟩) ?h7_35; (case e7_35_7 => ((conv => lhs; whnf); (try exact rfl))); (case h7_35 => ((try dsimp only); (try simp only [envL, lookV, if_true, if_false]); (try go_simp); (try with_reducible rfl)))
                    (try simp only [Act.put, List.setIfInBounds_toArray, List.set_cons_zero, List.set_cons_succ, List.getElem_toArray, List.getElem_cons_succ, List.getElem_cons_zero])
                    refine wpAnyJ_takeG (i := 8) (oi := { dst := some 122 , op := Go.Op.load 34 ( Go.Operand.tmp 121 ) , type := 34 , pos := "law.go:162" , after := #[ { on := 7 , ground := Go.Ground.data } ] , guard := none }) (v := ?v8_36) hG hsel (by kernel_rfl) (by kernel_rfl) (by kernel_rfl) (by kernel_rfl) (fun _ _ _ h => h) (Or.inl (And.intro (by kernel_rfl) ?q8_36)) hS0 ?r8_36
                    case q8_36 => intro w hx; refine run_env [121] [?a8_36_121] (by kernel_rfl) (by kernel_rfl) (⟨?e8_36_121, trivial⟩) ?h8_36; (case e8_36_121 => ((conv => lhs; whnf); (try exact rfl))); (case h8_36 => ((try dsimp only); (try simp only [envL, lookV, if_true, if_false]); (try go_simp); (try with_reducible rfl)))
                    (try simp only [Act.put, List.setIfInBounds_toArray, List.set_cons_zero, List.set_cons_succ, List.getElem_toArray, List.getElem_cons_succ, List.getElem_cons_zero])
                    refine wpAnyJ_takeG (i := 9) (oi := { dst := some 123 , op := Go.Op.move ( Go.Operand.tmp 15 ) , type := 3 , pos := "law.go:162" , after := #[ ] , guard := none }) (v := ?v9_37) hG hsel (by kernel_rfl) (by kernel_rfl) (by kernel_rfl) (by kernel_rfl) (fun _ _ _ h => h) (Or.inl (And.intro (by kernel_rfl) ?q9_37)) hS0 ?r9_37
                    case q9_37 => intro w hx; refine run_env [15] [?a9_37_15] (by kernel_rfl) (by kernel_rfl) (⟨?e9_37_15, trivial⟩) ?h9_37; (case e9_37_15 => ((conv => lhs; whnf); (try exact rfl))); (case h9_37 => ((try dsimp only); (try simp only [envL, lookV, if_true, if_false]); (try go_simp); (try with_reducible rfl)))
                    (try simp only [Act.put, List.setIfInBounds_toArray, List.set_cons_zero, List.set_cons_succ, List.getElem_toArray, List.getElem_cons_succ, List.getElem_cons_zero])
                    refine wpAnyJ_takeG (i := 10) (oi := { dst := some 124 , op := Go.Op.indexAddr 34 ( Go.Operand.tmp 122 ) ( Go.Operand.tmp 123 ) , type := 0 , pos := "law.go:162" , after := #[ { on := 8 , ground := Go.Ground.data } , { on := 9 , ground := Go.Ground.data } ] , guard := none }) (v := ?v10_38) hG hsel (by kernel_rfl) (by kernel_rfl) (by kernel_rfl) (by kernel_rfl) (fun _ _ _ h => h) (Or.inl (And.intro (by kernel_rfl) ?q10_38)) hS0 ?r10_38
                    case q10_38 => intro w hx; refine run_env [122, 123] [?a10_38_122, ?a10_38_123] (by kernel_rfl) (by kernel_rfl) (⟨?e10_38_122, ?e10_38_123, trivial⟩) ?h10_38; (case e10_38_122 => ((conv => lhs; whnf); (try exact rfl))); (case e10_38_123 => ((conv => lhs; whnf); (try exact rfl))); (case h10_38 => ((try dsimp only); (try simp only [envL, lookV, if_true, if_false]); (try go_simp); (try with_reducible rfl)))
                    (try simp only [Act.put, List.setIfInBounds_toArray, List.set_cons_zero, List.set_cons_succ, List.getElem_toArray, List.getElem_cons_succ, List.getElem_cons_zero])
                    refine wpAnyJ_takeG (i := 11) (oi := { dst := some 125 , op := Go.Op.fieldAddr 42 ( Go.Operand.tmp 124 ) 4 , type := 0 , pos := "law.go:162" , after := #[ { on := 10 , ground := Go.Ground.data } ] , guard := none }) (v := ?v11_39) hG hsel (by kernel_rfl) (by kernel_rfl) (by kernel_rfl) (by kernel_rfl) (fun _ _ _ h => h) (Or.inl (And.intro (by kernel_rfl) ?q11_39)) hS0 ?r11_39
                    case q11_39 => intro w hx; refine run_env [124] [?a11_39_124] (by kernel_rfl) (by kernel_rfl) (⟨?e11_39_124, trivial⟩) ?h11_39; (case e11_39_124 => ((conv => lhs; whnf); (try exact rfl))); (case h11_39 => ((try dsimp only); (try simp only [envL, lookV, if_true, if_false]); (try go_simp); (try with_reducible rfl)))
                    (try simp only [Act.put, List.setIfInBounds_toArray, List.set_cons_zero, List.set_cons_succ, List.getElem_toArray, List.getElem_cons_succ, List.getElem_cons_zero])
                    refine wpAnyJ_takeG (i := 12) (oi := { dst := some 126 , op := Go.Op.load 24 ( Go.Operand.tmp 125 ) , type := 24 , pos := "law.go:162" , after := #[ { on := 11 , ground := Go.Ground.data } ] , guard := none }) (v := ?v12_40) hG hsel (by kernel_rfl) (by kernel_rfl) (by kernel_rfl) (by kernel_rfl) (fun _ _ _ h => h) (Or.inl (And.intro (by kernel_rfl) ?q12_40)) hS0 ?r12_40
                    case q12_40 => intro w hx; refine run_env [125] [?a12_40_125] (by kernel_rfl) (by kernel_rfl) (⟨?e12_40_125, trivial⟩) ?h12_40; (case e12_40_125 => ((conv => lhs; whnf); (try exact rfl))); (case h12_40 => ((try dsimp only); (try simp only [envL, lookV, if_true, if_false]); (try go_simp); (try with_reducible rfl)))
                    (try simp only [Act.put, List.setIfInBounds_toArray, List.set_cons_zero, List.set_cons_succ, List.getElem_toArray, List.getElem_cons_succ, List.getElem_cons_zero])
                    refine wpAnyJ_takeG (i := 13) (oi := { dst := some 127 , op := Go.Op.build 26 #[ ( 0 , Go.Operand.tmp 120 ) , ( 1 , Go.Operand.tmp 126 ) ] , type := 26 , pos := "law.go:162" , after := #[ { on := 6 , ground := Go.Ground.data } , { on := 12 , ground := Go.Ground.data } ] , guard := none }) (v := ?v13_41) hG hsel (by kernel_rfl) (by kernel_rfl) (by kernel_rfl) (by kernel_rfl) (fun _ _ _ h => h) (Or.inl (And.intro (by kernel_rfl) ?q13_41)) hS0 ?r13_41
                    case q13_41 => intro w hx; refine run_env [120, 126] [?a13_41_120, ?a13_41_126] (by kernel_rfl) (by kernel_rfl) (⟨?e13_41_120, ?e13_41_126, trivial⟩) ?h13_41; (case e13_41_120 => ((conv => lhs; whnf); (try exact rfl))); (case e13_41_126 => ((conv => lhs; whnf); (try exact rfl))); (case h13_41 => ((try dsimp only); (try simp only [envL, lookV, if_true, if_false]); (try go_simp); (try with_reducible rfl)))
                    (try simp only [Act.put, List.setIfInBounds_toArray, List.set_cons_zero, List.set_cons_succ, List.getElem_toArray, List.getElem_cons_succ, List.getElem_cons_zero])
                    refine wpAnyJ_ready (rs := [14]) (by kernel_rfl) (by simp) ?_
                    refine (AllReadyJ.cons rfl (fun K hK => ?_) AllReadyJ.nil)
                    rw [if_pos (by kernel_rfl)]
                    (try simp only [List.getElem_toArray, List.getElem_cons_succ, List.getElem_cons_zero])
                    (focus go_simp)
                    refine hK.out _ _ ?hs (fun hS0 => ?_)
                    case hs => (first | with_reducible exact hS0 | with_reducible exact st | exact Only.then hS0 (fresh_below _ _))
                    clear hK K
                    (try simp only [Act.put, List.setIfInBounds_toArray, List.set_cons_zero, List.set_cons_succ, List.getElem_toArray, List.getElem_cons_succ, List.getElem_cons_zero])
                    refine wpAnyJ_ready (rs := [15]) (by kernel_rfl) (by simp) ?_
                    refine (AllReadyJ.cons rfl (fun K hK => ?_) AllReadyJ.nil)
                    (focus (refine RowK.step_app (K := pointK) rfl (.tmp 114) (.tmp 128) rfl _ _ rfl rfl ((q.ws.take k2).map metOf) [⟨ra, rf⟩] (RowK.Own.below (RowK.Own.below OWN.out (Below.drew (Below.refl _ _))) (fresh_below _ _)) (RowK.Read.one (Cells.new _ _ _)) (by simp; omega) ?_; intro A1 n1 w9 o9 g9 h9; rw [HLN.out] at o9 h9 ⊢; have st := Only.app hS0 g9 (fun j e => Or.inl (by rw [HFE.out]; exact e))))
                    (focus (try go_wp2_with fail))
                    refine hK.out _ _ ?hs (fun hS0 => ?_)
                    case hs => (first | with_reducible exact hS0 | with_reducible exact st | exact Only.then hS0 (fresh_below _ _))
                    clear hK K
                    (try simp only [Act.put, List.setIfInBounds_toArray, List.set_cons_zero, List.set_cons_succ, List.getElem_toArray, List.getElem_cons_succ, List.getElem_cons_zero])
                    refine wpAnyJ_takeG (i := 16) (oi := { dst := some 9 , op := Go.Op.assign ( Go.Operand.tmp 129 ) , type := 32 , pos := "law.go:162" , after := #[ { on := 15 , ground := Go.Ground.data } , { on := 15 , ground := Go.Ground.chain } , { on := 0 , ground := Go.Ground.phase } , { on := 1 , ground := Go.Ground.phase } , { on := 2 , ground := Go.Ground.phase } , { on := 3 , ground := Go.Ground.phase } , { on := 4 , ground := Go.Ground.phase } , { on := 5 , ground := Go.Ground.phase } , { on := 6 , ground := Go.Ground.phase } , { on := 7 , ground := Go.Ground.phase } , { on := 8 , ground := Go.Ground.phase } , { on := 9 , ground := Go.Ground.phase } , { on := 10 , ground := Go.Ground.phase } , { on := 11 , ground := Go.Ground.phase } , { on := 12 , ground := Go.Ground.phase } , { on := 13 , ground := Go.Ground.phase } , { on := 14 , ground := Go.Ground.phase } , { on := 15 , ground := Go.Ground.phase } ] , guard := none }) (v := ?v16_42) hG hsel (by kernel_rfl) (by kernel_rfl) (by kernel_rfl) (by kernel_rfl) (fun _ _ _ h => h) (Or.inl (And.intro (by kernel_rfl) ?q16_42)) hS0 ?r16_42
                    case q16_42 => intro w hx; refine run_env [129] [?a16_42_129] (by kernel_rfl) (by kernel_rfl) (⟨?e16_42_129, trivial⟩) ?h16_42; (case e16_42_129 => ((conv => lhs; whnf); (try exact rfl))); (case h16_42 => ((try dsimp only); (try simp only [envL, lookV, if_true, if_false]); (try go_simp); (try with_reducible rfl)))
                    (try simp only [Act.put, List.setIfInBounds_toArray, List.set_cons_zero, List.set_cons_succ, List.getElem_toArray, List.getElem_cons_succ, List.getElem_cons_zero])
                    refine wpAnyJ_done (by kernel_rfl) ?_ _
                  have hup2 : ∀ j, (Value.slice A1 (k2 + 1) n1).ownBlock = some j → wi.heap.size ≤ j := fun j e => by
                    have hs := BIH.out.size
                    rcases h9 with h | h
                    · exact HUP.out j (h.symm.trans e)
                    · rw [h] at e; cases e; simp; omega
                  have RX := hide (show pointK.Own w9 (.slice A1 (k2 + 1) n1) ((q.ws.take (k2 + 1)).map metOf) ∧ (∀ j, (Value.slice A1 (k2 + 1) n1).ownBlock = some j → wi.heap.size ≤ j) ∧ Below wi.heap.size wi w9 from ⟨by rw [HSN.out]; exact o9, hup2, BIH.out.trans (st.below (fun j e => HFI.out j e) BIH.out.size)⟩)
                  clear o9 g9 h9 st hup2 bb q7 z0 z1 z2 z3 z4 z5 z6 z7 OWN HFE BIH HFI HUP HSN HLN s23 hS0
                  go_wp2_with fail
                  go_roundg (n - (k2 + 1))
                  case measure => omega
                  case rel => exact ⟨k2 + 1, _, by omega, by omega, rfl, by go_num, (show Aside _ from RX.out)⟩
                · go_upto_region 22 with fail
                  refine wp_region_lit ?_
                  refine wpList_plain rfl fun K hK => ?_; go_simp; refine hK _ _ ?_; clear hK K
                  refine wpList_plain rfl fun K hK => ?_; go_simp; refine hK _ _ ?_; clear hK K
                  refine wpList_plain rfl fun K hK => ?_; go_simp; refine hK _ _ ?_; clear hK K
                  refine wpList_plain rfl fun K hK => ?_; go_simp; refine hK _ _ ?_; clear hK K
                  refine wpList_plain rfl fun K hK => ?_; go_simp; refine hK _ _ ?_; clear hK K
                  refine wpList_plain rfl fun K hK => ?_; go_simp; refine hK _ _ ?_; clear hK K
                  refine wpList_plain rfl fun K hK => ?_; go_simp; refine hK _ _ ?_; clear hK K
                  refine wpList_plain rfl fun K hK => ?_; go_simp; refine hK _ _ ?_; clear hK K
                  refine wpList_plain rfl fun K hK => ?_
                  refine RowK.wp_app (K := pointK) (.tmp 105) (.tmp 112) rfl _ _ rfl rfl ((q.ws.take k2).map metOf) [⟨oi, op⟩] (RowK.Own.below OWN.out (fresh_below _ _)) (RowK.Read.one (Cells.new _ _ _)) (by simp; omega) ?_
                  intro A1 n1 w9 o9 g9 h9
                  rw [HLN.out] at o9 h9 ⊢
                  refine hK _ _ ?_; clear hK K
                  have st := Only.app (Only.then bb (fresh_below _ _)) g9 (fun j e => Or.inl (by rw [HFE.out]; exact e))
                  have hup2 : ∀ j, (Value.slice A1 (k2 + 1) n1).ownBlock = some j → wi.heap.size ≤ j := fun j e => by
                    have hs := BIH.out.size
                    rcases h9 with h | h
                    · exact HUP.out j (h.symm.trans e)
                    · rw [h] at e; cases e; simp; omega
                  have RX := hide (show pointK.Own w9 (.slice A1 (k2 + 1) n1) ((q.ws.take (k2 + 1)).map metOf) ∧ (∀ j, (Value.slice A1 (k2 + 1) n1).ownBlock = some j → wi.heap.size ≤ j) ∧ Below wi.heap.size wi w9 from ⟨by rw [HSN.out]; exact o9, hup2, BIH.out.trans (st.below (fun j e => HFI.out j e) BIH.out.size)⟩)
                  clear o9 g9 h9 st hup2 bb q7 z0 z1 z2 z3 z4 z5 z6 z7 OWN HFE BIH HFI HUP HSN HLN 
                  go_wp2_with fail
                  go_roundg (n - (k2 + 1))
                  case measure => omega
                  case rel => exact ⟨k2 + 1, _, by omega, by omega, rfl, by go_num, (show Aside _ from RX.out)⟩
              · have hltz2 : ¬ (k2 : Int) < (n : Int) := by omega
                have e2 : k2 = n := by omega
                subst e2
                rw [List.take_of_length_le (by have := HN.out; omega)] at own
                obtain ⟨A9, c9, hV, hh, hl9⟩ := own.has
                have hln : (q.ws.map metOf).length = k2 := by rw [List.length_map]; exact HN.out.symm
                rw [hln] at hV hh
                subst hV
                have HX := hide (show (-9223372036854775808 ≤ bits .and .i64 nw 1023 ∧ bits .and .i64 nw 1023 ≤ 9223372036854775807) ∧ k2 = (q.ws.map metOf).length ∧ k2 ≤ 5 ∧ k2 ≤ c9 ∧ pointK.Has wr A9 (q.ws.map metOf) from ⟨bits_i64_bd _ _ _, hln.symm, by omega, hh, hl9⟩)
                have BX := hide (bstep (bstep BW0.out BI.out) bi)
                clear own hup bi e7 hF hFi hg7 hh hl9 hln
                have hkw : IntKind.i64.wrap ((kk : Int) + 1) = ((kk + 1 : Nat) : Int) := by rw [IntWalk.i64_in _ (by omega)]; omega
                go_wp2_with fail
                go_roundg (2 - (kk + 1))
                case measure => omega
                case rel => exact ⟨kk + 1, _, q.ws.map metOf, k2, A9, c9, by omega, by omega, rfl, rfl, by go_num, (show Aside _ from HX.out), (show Aside _ from BX.out)⟩
          · have hltz : ¬ (kk : Int) < 2 := by omega
            have LW := hide lw
            have bb : Below wr.heap.size wr wr := Below.refl _ _
            clear lw HH BW
            go_wp2_with (go_at_call 4; (with_reducible refine (CB.out _ LW.out).mono ?_); rintro e w2 ⟨rfl, b2⟩)
            go_ret
            exact ⟨rfl, bstep LW.out b2⟩
end Go.Proofs.YtilfcikhipadpaaDoor
end

section
/- What BindsMake's card lists, out of what the row lists; the heap that the program's own door leaves meets it. -/
set_option linter.unusedVariables false
namespace Go.Proofs.YtilfcikhipadpaaDoor
open Go.ChangeShapes Go.WideShapes Go.ChangeAt Go.WideMaps Go.WideElems Go.RowKit Go.Maps

def lastsTab : List (List Int) := [[0, 0, 0, 0, 0, 0, 0, 0], [0, 120, 300, 0, 0, 0, 0, 0], [0, 60, 60, 0, 0, 0, 0, 0], [0, 240, 240, 7440, 240, 240, 240, 240]]
theorem lasts_is : (Rows.laid_porter_track_lasts : DataW Unit) = .agg (lastsTab.map fun r => .agg (r.map fun n => .lit (.int .i64 n))) := rfl
theorem lasts_time : ∀ i : Fin 4, ∀ j : Fin 8, (lastsTab.getD i.val []).getD j.val 0 = timeV (i.val : Nat) (j.val : Nat) := by decide
theorem lasts_size : lastsTab.length = 4 ∧ ∀ i : Fin 4, (lastsTab.getD i.val []).length = 8 := by decide
theorem map_fst_at {α β γ : Type} {xs : List (α × β)} {l : List γ} {f : γ → α} (h : xs.map (·.1) = l.map f) {i : Nat} (hi : i < l.length) : ∃ y, xs[i]? = some (f l[i], y) := by
  have hx : i < xs.length := by have := congrArg List.length h; simp at this; omega
  refine ⟨xs[i].2, ?_⟩
  rw [List.getElem?_eq_getElem hx]
  have h1 : (xs.map (·.1))[i]? = (l.map f)[i]? := by rw [h]
  rw [List.getElem?_map, List.getElem?_map, List.getElem?_eq_getElem hx, List.getElem?_eq_getElem hi] at h1
  simp only [Option.map_some, Option.some.injEq] at h1
  rw [← h1]
theorem lasts_cells {w : World} {base : Nat} {spare : Nat → Bool} {held : Bool} {fuel : Nat} {enc : TypeId × Value → Unit} {cs : List Value} {ps : List MemPlace}
    (h : DataW.trod enc Tryd.prog w base spare held fuel 82 cs = some (Rows.laid_porter_track_lasts, ps)) (i j : Nat) (hi : i < 4) (hj : j < 8) : cs[i * 8 + j]? = some (.int .i64 (timeV i j)) := by
  obtain ⟨xs, m, _, hx, _, _, hg⟩ := DataW.trod_array (n := 4) (e := 81) (by kernel_rfl) h
  rw [lasts_is] at hx
  simp only [Prod.mk.injEq, DataW.agg.injEq] at hx
  obtain ⟨y, hy⟩ := map_fst_at (i := i) hx.1.symm (by rw [lasts_size.1]; exact hi)
  have h1 := hg i hi
  rw [hy, show Tryd.prog.cellsOf 81 = 8 from by kernel_rfl] at h1
  obtain ⟨zs, m2, _, hz, _, _, hg2⟩ := DataW.trod_array (n := 8) (e := 3) (by kernel_rfl) h1
  simp only [Prod.mk.injEq, DataW.agg.injEq] at hz
  have e1 : lastsTab[i]'(by rw [lasts_size.1]; exact hi) = lastsTab.getD i [] := by rw [List.getD_eq_getElem?_getD, List.getElem?_eq_getElem (by rw [lasts_size.1]; exact hi)]; rfl
  have e2 := lasts_size.2 ⟨i, hi⟩
  rw [e1] at hz
  obtain ⟨u, hu⟩ := map_fst_at (i := j) hz.1.symm (by rw [e2]; exact hj)
  have h2 := hg2 j hj
  rw [hu, show Tryd.prog.cellsOf 3 = 1 from by kernel_rfl] at h2
  obtain ⟨k, hk, hv, _⟩ := DataW.trod_int Tryd.underlying3 h2
  simp only [Prod.mk.injEq, DataW.lit.injEq, Lit.int.injEq, true_and] at hv
  have e3 := lasts_time ⟨i, hi⟩ ⟨j, hj⟩
  simp only at e3
  rw [List.getD_eq_getElem?_getD (l := lastsTab.getD i []), List.getElem?_eq_getElem (by rw [e2]; exact hj), Option.getD_some] at e3
  have hcell : (((cs.drop (i * 8)).take 8).drop (j * 1))[0]? = some (.int .i64 k) := by
    have := congrArg (fun l => l[0]?) hk
    simpa using this
  rw [List.getElem?_drop, Nat.mul_one, Nat.add_zero, List.getElem?_take_of_lt hj, List.getElem?_drop] at hcell
  rw [hcell, ← hv.1, e3]
def laidMk : List (String × DataW Unit) := [("porter/track.lasts", Rows.laid_porter_track_lasts), ("porter/tuples.words", Rows.laid_porter_tuples_words)]
theorem gLasts : Tryd.prog.globalNamed "porter/track.lasts" = some 0 := by kernel_rfl
theorem tLasts : (Tryd.prog.globals[0]?).map (·.type) = some 82 := by kernel_rfl
theorem gWords : Tryd.prog.globalNamed "porter/tuples.words" = some 1 := by kernel_rfl
theorem tWords : (Tryd.prog.globals[1]?).map (·.type) = some 102 := by kernel_rfl
set_option maxRecDepth 100000 in
theorem mk_of_laid {W : World} (h : laidMetH Tryd.prog laidMk W) : Lasts W ∧ Wds W := by
  rw [MakeChecks.laidMetH_plain _ _ _ (by kernel_rfl)] at h
  obtain ⟨ps, ⟨g0, t0, cs0, f0, p0, q0, hg0, ht0, hv0, hd0, ⟨g1, t1, cs1, f1, p1, q1, hg1, ht1, hv1, hd1, _, _⟩, _⟩, _, _⟩ := h
  refine ⟨fun i j hi hj => ?_, ?_⟩
  · obtain rfl := Option.some.inj (gLasts.symm.trans hg0)
    obtain rfl := Option.some.inj (tLasts.symm.trans ht0)
    have h1 := lasts_cells hd0 i j hi hj
    rw [World.var?_cell hg0 hv0]
    simpa using h1
  · obtain rfl := Option.some.inj (gWords.symm.trans hg1)
    obtain rfl := Option.some.inj (tWords.symm.trans ht1)
    rcases open_map Tryd.underlying102 hd1 with ⟨_, hx⟩ | ⟨bm, es, clock, m, rfl, hcs, hb, _, F, hx⟩
    · simp [Rows.laid_porter_tuples_words] at hx
    simp only [Prod.mk.injEq] at hx
    have hcell : W.cell? ⟨1, 0, none⟩ = some (.map (some bm)) := by
      have := World.var?_cell hg1 hv1 0
      rw [Array.eq_one_of_toList hcs] at this
      simpa using this
    have hown := World.ownsMap_of_fit (R := plainElem Tryd.prog 9) hb F (fun x _ z hz => elemAt_plainElem_string Tryd.underlying9 hz)
    rw [← hx.1] at hown
    exact ⟨bm, _, hcell, hown⟩
theorem mk_met (os : Os) (args : Array Value) : laidMetH Tryd.prog laidMk ((World.doorLaid Tryd.prog 400 os).forCall (fun _ _ => 0) ⟨#[], args, []⟩).memory :=
  laidMetH_of_parts3 (fuel := 8) (laidMet_of_run' 8 (by kernel_rfl) (by kernel_rfl)) (by kernel_rfl) (by kernel_rfl)
end Go.Proofs.YtilfcikhipadpaaDoor
end
