/- rules: a rule, a table in memory; none, Inner, static. -/
import Derived.Test.YtbboajhdijabbaaPfx
import Derived.Deep.DeepCutAuto
import Derived.Deep.CutBlock
set_option linter.unusedVariables false
set_option linter.unusedSimpArgs false
namespace Go.Proofs.Ytbboajhdijabbaa
open Go.RowKit
attribute [local go_sem] Oper.semAt_some

/-- a rule: kind, protocol, source and destination prefix, outer address, ports from and to, inner endpoint -/
structure Rule where
  k : Int
  p : Int
  sa : Int
  sb : Int
  da : Int
  db : Int
  e : Int
  f : Int
  t : Int
  ia : Int
  ip : Int
deriving DecidableEq
def Rule.cells (r : Rule) : Array Value := #[.int .i64 r.k, .int .u8 r.p, .int .u32 r.sa, .int .i64 r.sb, .int .u32 r.da, .int .i64 r.db, .int .u32 r.e, .int .u16 r.f, .int .u16 r.t, .int .u32 r.ia, .int .u16 r.ip]
def Rule.Ok (r : Rule) : Prop := (0 ≤ r.p ∧ r.p ≤ 255) ∧ (0 ≤ r.sa ∧ r.sa ≤ 4294967295) ∧ (0 ≤ r.da ∧ r.da ≤ 4294967295) ∧ (0 ≤ r.e ∧ r.e ≤ 4294967295) ∧ (0 ≤ r.f ∧ r.f ≤ 65535) ∧ (0 ≤ r.t ∧ r.t ≤ 65535) ∧ (0 ≤ r.ia ∧ r.ia ≤ 4294967295) ∧ (0 ≤ r.ip ∧ r.ip ≤ 65535)
def stOk (ip b : Int) (r : Rule) : Bool := (decide (r.sa = 0) && decide (r.sb = 0) && decide (r.da = 0) && decide (r.db = 0)) && (decide (r.p = 6) || decide (r.p = 17)) && !hasP ip b r.e && decide (0 < r.f) && decide (r.t = r.f) && hasP ip b r.ia && decide (0 < r.ip)
def srOk (r : Rule) : Bool := (decide (r.p = 0) || decide (r.p = 1) || decide (r.p = 6) || decide (r.p = 17)) && decide (r.ia = 0) && decide (r.ip = 0) && mayP r.sa r.sb && mayP r.da r.db && decide (0 < r.f) && decide (r.f ≤ r.t)
def mayR (ip b : Int) (r : Rule) : Bool := if r.k = 1 then srOk r && !hasP ip b r.e else if r.k = 2 then srOk r && decide (r.e = 0) else if r.k = 3 then stOk ip b r else false

/-- the program's table at block B: its outer address, its inner prefix, its slice of rules -/
def Tbl (w : World) (B : Nat) (o ip b : Int) (v : Value) : Prop := Cells w B #[.bool true, .int .u32 o, .int .u32 ip, .int .i64 b, v] 71
theorem Tbl.below {w w' : World} {B : Nat} {o ip b : Int} {v : Value} (h : Tbl w B o ip b v) (k : Below w.heap.size w w') : Tbl w' B o ip b v := Cells.below k h

theorem t_none (w : World) (B : Nat) (o ip b : Int) (v : Value) (h : Tbl w B o ip b v) :
    Calls Try.prog 38 #[.pointer (some ⟨B, 0, none⟩)] w (Ret (.bool false) w) := by
  have h0 : w.cell? ⟨B, 0, none⟩ = some (.bool true) := Cells.at_ h 0
  clear h
  go_enter Try.func38, Try.ntmps38
  go_wp2_with fail
  go_ret
  exact ⟨rfl, Below.refl _ _⟩

theorem t_Inner (w : World) (B : Nat) (o ip b a : Int) (v : Value) (h : Tbl w B o ip b v) (hi : 0 ≤ ip ∧ ip ≤ 4294967295) (ha : 0 ≤ a ∧ a ≤ 4294967295) :
    Calls Try.prog 16 #[.pointer (some ⟨B, 0, none⟩), .int .u32 a] w (Ret (.bool (hasP ip b a)) w) := by
  have c1 := t_none w B o ip b v h
  have c2 := fun W => addrs_Has ip b a W hi ha
  have C1 := hide c1; have C2 := hide c2; have H := hide h
  clear c1 c2 h
  go_enter Try.func16, Try.ntmps16
  go_wp2_with fail
  (with_reducible refine (C1.out).mono ?_)
  rintro e w1 ⟨rfl, b1⟩
  have h1 := Tbl.below H.out b1
  have x2 : w1.cell? ⟨B, 2, none⟩ = some (.int .u32 ip) := Cells.at_ h1 2
  have x3 : w1.cell? ⟨B, 3, none⟩ = some (.int .i64 b) := Cells.at_ h1 3
  clear h1
  go_wp2_with fail
  (with_reducible refine (C2.out _).mono ?_)
  rintro e w2 ⟨rfl, b2⟩
  go_wp2_with fail
  go_ret
  exact ⟨rfl, bstep b1 b2⟩

set_option maxRecDepth 100000 in
set_option maxHeartbeats 4000000 in
theorem t_static (w : World) (B : Nat) (o ip b : Int) (v : Value) (r : Rule) (h : Tbl w B o ip b v) (hi : 0 ≤ ip ∧ ip ≤ 4294967295) (hr : r.Ok) :
    Calls Try.prog 40 #[.pointer (some ⟨B, 0, none⟩), .agg r.cells] w (Ret (.bool (stOk ip b r)) w) := by
  obtain ⟨k, p, sa, sb, da, db, e, f, t, ia, ipp⟩ := r
  unfold Rule.Ok at hr
  unfold Rule.cells
  simp only at hr ⊢
  obtain ⟨vv, hvv⟩ : ∃ vv, vv = stOk ip b ⟨k, p, sa, sb, da, db, e, f, t, ia, ipp⟩ := ⟨_, rfl⟩
  rw [← hvv]
  unfold stOk at hvv
  simp only at hvv
  have c1 := fun W (h : Below w.heap.size w W) (hw : Tbl w B o ip b v) => t_Inner W B o ip b e v (Tbl.below hw h) hi hr.2.2.2.1
  have c2 := fun W (h : Below w.heap.size w W) (hw : Tbl w B o ip b v) => t_Inner W B o ip b ia v (Tbl.below hw h) hi hr.2.2.2.2.2.2.1
  generalize hasP ip b e = he at *
  generalize hasP ip b ia = hia at *
  have C1 := hide c1; have C2 := hide c2; have HH := hide h; have HR := hide hr; have HV := hide hvv
  clear c1 c2 h hr hvv
  go_enter Try.func40, Try.ntmps40
  have d0 := Cells.new w #[.int .i64 k, .int .u8 p, .int .u32 sa, .int .i64 sb, .int .u32 da, .int .i64 db, .int .u32 e, .int .u16 f, .int .u16 t, .int .u32 ia, .int .u16 ipp] 30
  have l0 := fresh_below w (.cells #[.int .i64 k, .int .u8 p, .int .u32 sa, .int .i64 sb, .int .u32 da, .int .i64 db, .int .u32 e, .int .u16 f, .int .u16 t, .int .u32 ia, .int .u16 ipp] 30)
  have L0 := hide l0; have D0 := hide d0
  clear l0 d0
  go_upto_region 1 with fail
  have l0 := L0.out; have d0 := D0.out
  clear L0 D0
  generalize (w.alloc (.cells #[.int .i64 k, .int .u8 p, .int .u32 sa, .int .i64 sb, .int .u32 da, .int .i64 db, .int .u32 e, .int .u16 f, .int .u16 t, .int .u32 ia, .int .u16 ipp] 30)) = w1 at *
  have xx : ∀ W, Below w1.heap.size w1 W → Cells W w.heap.size #[.int .i64 k, .int .u8 p, .int .u32 sa, .int .i64 sb, .int .u32 da, .int .i64 db, .int .u32 e, .int .u16 f, .int .u16 t, .int .u32 ia, .int .u16 ipp] 30 := fun W h => Cells.below h d0
  have y1 : ∀ W, Below w1.heap.size w1 W → W.cell? ⟨w.heap.size, 1, none⟩ = some (.int .u8 p) := fun W h => (xx W h).at_ 1
  have y2 : ∀ W, Below w1.heap.size w1 W → W.cell? ⟨w.heap.size, 2, none⟩ = some (.int .u32 sa) := fun W h => (xx W h).at_ 2
  have y3 : ∀ W, Below w1.heap.size w1 W → W.cell? ⟨w.heap.size, 3, none⟩ = some (.int .i64 sb) := fun W h => (xx W h).at_ 3
  have y4 : ∀ W, Below w1.heap.size w1 W → W.cell? ⟨w.heap.size, 4, none⟩ = some (.int .u32 da) := fun W h => (xx W h).at_ 4
  have y5 : ∀ W, Below w1.heap.size w1 W → W.cell? ⟨w.heap.size, 5, none⟩ = some (.int .i64 db) := fun W h => (xx W h).at_ 5
  have y6 : ∀ W, Below w1.heap.size w1 W → W.cell? ⟨w.heap.size, 6, none⟩ = some (.int .u32 e) := fun W h => (xx W h).at_ 6
  have y7 : ∀ W, Below w1.heap.size w1 W → W.cell? ⟨w.heap.size, 7, none⟩ = some (.int .u16 f) := fun W h => (xx W h).at_ 7
  have y8 : ∀ W, Below w1.heap.size w1 W → W.cell? ⟨w.heap.size, 8, none⟩ = some (.int .u16 t) := fun W h => (xx W h).at_ 8
  have y9 : ∀ W, Below w1.heap.size w1 W → W.cell? ⟨w.heap.size, 9, none⟩ = some (.int .u32 ia) := fun W h => (xx W h).at_ 9
  have y10 : ∀ W, Below w1.heap.size w1 W → W.cell? ⟨w.heap.size, 10, none⟩ = some (.int .u16 ipp) := fun W h => (xx W h).at_ 10
  have bb : Below w1.heap.size w1 w1 := Below.refl _ _
  have XX := hide xx; have D0 := hide d0; have L0 := hide l0
  clear xx d0 l0
  go_wp2_with (first | (go_at_call 16; (with_reducible refine (C1.out _ (bstep L0.out (by assumption)) HH.out).mono ?_); rintro e2 w2 ⟨rfl, b2⟩; have b2' := bstep (by assumption : Below w1.heap.size w1 _) b2; clear b2) | (go_at_call 16; (with_reducible refine (C2.out _ (bstep L0.out (by assumption)) HH.out).mono ?_); rintro e2 w3 ⟨rfl, b3⟩; have b3' := bstep (by assumption : Below w1.heap.size w1 _) b3; clear b3))
  all_goals
    go_ret
    refine ⟨ret_bool ?_, bstep L0.out (by assumption)⟩
    clear y1 y2 y3 y4 y5 y6 y7 y8 y9 y10 XX D0 C1 C2 HH L0 bb HR
    rw [HV.out]
    clear HV
    first | (simp [*]; done) | (simp [*]; omega)
end Go.Proofs.Ytbboajhdijabbaa
