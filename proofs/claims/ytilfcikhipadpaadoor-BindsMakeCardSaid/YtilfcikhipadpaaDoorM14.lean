/- Several texts of this claim, one behind the other. -/
import Derived.Test.YtilfcikhipadpaaDoorM12
import Derived.Test.YtilfcikhipadpaaDoorM13

section
/- binds: what a plan is made of; outward. -/
set_option linter.unusedVariables false
set_option linter.unusedSimpArgs false
namespace Go.Proofs.YtilfcikhipadpaaDoor
open Go.RowKit Go.Lib
attribute [local go_sem] Oper.semAt_some

/-- between whom a packet goes -/
structure Btw where
  p : Int
  si : Int
  sp : Int
  di : Int
  dp : Int
structure Btw.Ok (x : Btw) : Prop where
  p : 0 ≤ x.p ∧ x.p ≤ 255
  si : 0 ≤ x.si ∧ x.si ≤ 4294967295
  sp : 0 ≤ x.sp ∧ x.sp ≤ 65535
  di : 0 ≤ x.di ∧ x.di ≤ 4294967295
  dp : 0 ≤ x.dp ∧ x.dp ≤ 65535
def Btw.cells (x : Btw) : Array Value := #[.int .u8 x.p, .int .u32 x.si, .int .u16 x.sp, .int .u32 x.di, .int .u16 x.dp]
/-- an outer endpoint that is asked for -/
structure Wnt where
  fx : Bool
  ii : Int
  ip : Int
  oi : Int
  op : Int
  a : Int
  f : Int
  t : Int
def Wnt.cells (x : Wnt) : Array Value := #[.bool x.fx, .int .u32 x.ii, .int .u16 x.ip, .int .u32 x.oi, .int .u16 x.op, .int .u32 x.a, .int .u16 x.f, .int .u16 x.t]
def zeroW : Wnt := ⟨false, 0, 0, 0, 0, 0, 0, 0⟩
/-- the want of a source -/
def outwardV (o : Int) (l : List Rule) (x : Btw) : Wnt × Bool :=
  if l.any (owP x.p x.si x.sp) = true then (⟨true, x.si, x.sp, (firstR o (owP x.p x.si x.sp) l).e, (firstR o (owP x.p x.si x.sp) l).f, 0, 0, 0⟩, true)
  else if l.any (srcP x.p x.si x.di) = true then (⟨false, x.si, x.sp, 0, 0, (firstR o (srcP x.p x.si x.di) l).e, (firstR o (srcP x.p x.si x.di) l).f, (firstR o (srcP x.p x.si x.di) l).t⟩, true)
  else (zeroW, false)

set_option maxHeartbeats 4000000 in
set_option maxRecDepth 100000 in
theorem b_outward (w : World) (B : Nat) (o ip b : Int) (v : Value) (l : List Rule) (h : TS w B o ip b l v) (hl : l.length ≤ 1000) (hok : ∀ r ∈ l, r.Ok) (p si sp di dp : Int) (hs : 0 ≤ si ∧ si ≤ 4294967295) (hd : 0 ≤ di ∧ di ≤ 4294967295) :
    Calls Tryd.prog 39 #[.pointer (some ⟨B, 0, none⟩), .agg #[.int .u8 p, .int .u32 si, .int .u16 sp, .int .u32 di, .int .u16 dp]] w (Ret (.tuple #[.agg (outwardV o l ⟨p, si, sp, di, dp⟩).1.cells, .bool (outwardV o l ⟨p, si, sp, di, dp⟩).2]) w) := by
  have c0 := fun W (hW : Below w.heap.size w W) => t_Own W B o ip b v l (h.below hW) hl p si sp
  have c1 := fun W (hW : Below w.heap.size w W) => t_Source W B o ip b v l (h.below hW) hl hok p si sp di dp hs hd
  unfold outwardV
  simp only
  generalize firstR o (owP p si sp) l = R1 at *
  generalize firstR o (srcP p si di) l = R2 at *
  generalize l.any (owP p si sp) = x1 at *
  generalize l.any (srcP p si di) = x2 at *
  unfold Rule.cells at c0 c1
  have C0 := hide c0; have C1 := hide c1
  clear c0 c1 h hl hok hs hd
  go_enter Tryd.func39, Tryd.ntmps39
  have d0 := Cells.new w #[.int .u8 p, .int .u32 si, .int .u16 sp, .int .u32 di, .int .u16 dp] 28
  replace d0 := Cells.below (fresh_below (w.alloc (.cells #[.int .u8 p, .int .u32 si, .int .u16 sp, .int .u32 di, .int .u16 dp] 28)) (.cells #[.bool false, .int .u32 0, .int .u16 0, .int .u32 0, .int .u16 0, .int .u32 0, .int .u16 0, .int .u16 0] 40)) d0
  have d1 := Cells.new (w.alloc (.cells #[.int .u8 p, .int .u32 si, .int .u16 sp, .int .u32 di, .int .u16 dp] 28)) #[.bool false, .int .u32 0, .int .u16 0, .int .u32 0, .int .u16 0, .int .u32 0, .int .u16 0, .int .u16 0] 40
  have l0 : Below w.heap.size w ((w.alloc (.cells #[.int .u8 p, .int .u32 si, .int .u16 sp, .int .u32 di, .int .u16 dp] 28)).alloc (.cells #[.bool false, .int .u32 0, .int .u16 0, .int .u32 0, .int .u16 0, .int .u32 0, .int .u16 0, .int .u16 0] 40)) := (bstep (fresh_below _ _) (fresh_below _ _))
  simp only [World.size_alloc] at d1
  have L0 := hide l0; have D0 := hide d0; have D1 := hide d1
  clear l0 d0 d1
  go_upto_region 1 with fail
  have l0 := L0.out; have d0 := D0.out; have d1 := D1.out
  clear L0 D0 D1
  generalize ((w.alloc (.cells #[.int .u8 p, .int .u32 si, .int .u16 sp, .int .u32 di, .int .u16 dp] 28)).alloc (.cells #[.bool false, .int .u32 0, .int .u16 0, .int .u32 0, .int .u16 0, .int .u32 0, .int .u16 0, .int .u16 0] 40)) = w1 at *
  have qd0_0 : ∀ W', Below w1.heap.size w1 W' → World.cell? W' ⟨w.heap.size, 0, none⟩ = some (.int .u8 p) := fun W' h => Cells.at_ (Cells.below h d0) 0
  have qd0_1 : ∀ W', Below w1.heap.size w1 W' → World.cell? W' ⟨w.heap.size, 1, none⟩ = some (.int .u32 si) := fun W' h => Cells.at_ (Cells.below h d0) 1
  have qd0_2 : ∀ W', Below w1.heap.size w1 W' → World.cell? W' ⟨w.heap.size, 2, none⟩ = some (.int .u16 sp) := fun W' h => Cells.at_ (Cells.below h d0) 2
  have qd0_3 : ∀ W', Below w1.heap.size w1 W' → World.cell? W' ⟨w.heap.size, 3, none⟩ = some (.int .u32 di) := fun W' h => Cells.at_ (Cells.below h d0) 3
  have qd0_4 : ∀ W', Below w1.heap.size w1 W' → World.cell? W' ⟨w.heap.size, 4, none⟩ = some (.int .u16 dp) := fun W' h => Cells.at_ (Cells.below h d0) 4
  have qd1_0 : ∀ W', Below w1.heap.size w1 W' → World.cell? W' ⟨w.heap.size + 1, 0, none⟩ = some (.bool false) := fun W' h => Cells.at_ (Cells.below h d1) 0
  have qd1_1 : ∀ W', Below w1.heap.size w1 W' → World.cell? W' ⟨w.heap.size + 1, 1, none⟩ = some (.int .u32 0) := fun W' h => Cells.at_ (Cells.below h d1) 1
  have qd1_2 : ∀ W', Below w1.heap.size w1 W' → World.cell? W' ⟨w.heap.size + 1, 2, none⟩ = some (.int .u16 0) := fun W' h => Cells.at_ (Cells.below h d1) 2
  have qd1_3 : ∀ W', Below w1.heap.size w1 W' → World.cell? W' ⟨w.heap.size + 1, 3, none⟩ = some (.int .u32 0) := fun W' h => Cells.at_ (Cells.below h d1) 3
  have qd1_4 : ∀ W', Below w1.heap.size w1 W' → World.cell? W' ⟨w.heap.size + 1, 4, none⟩ = some (.int .u16 0) := fun W' h => Cells.at_ (Cells.below h d1) 4
  have qd1_5 : ∀ W', Below w1.heap.size w1 W' → World.cell? W' ⟨w.heap.size + 1, 5, none⟩ = some (.int .u32 0) := fun W' h => Cells.at_ (Cells.below h d1) 5
  have qd1_6 : ∀ W', Below w1.heap.size w1 W' → World.cell? W' ⟨w.heap.size + 1, 6, none⟩ = some (.int .u16 0) := fun W' h => Cells.at_ (Cells.below h d1) 6
  have qd1_7 : ∀ W', Below w1.heap.size w1 W' → World.cell? W' ⟨w.heap.size + 1, 7, none⟩ = some (.int .u16 0) := fun W' h => Cells.at_ (Cells.below h d1) 7
  have bb : Below w1.heap.size w1 w1 := Below.refl _ _
  have L0 := hide l0; have D0 := hide d0; have D1 := hide d1
  clear l0 d0 d1
  have fz : ∀ W' i, Below w1.heap.size w1 W' → World.frozen? W' ⟨w.heap.size + 1, i, none⟩ = false := fun W' i h => Cells.free (Cells.below h D1.out) i
  have bA : ∀ W o, Below w1.heap.size w1 W → Below w1.heap.size w1 (W.alloc o) := fun W o h => bstep h (fresh_below W o)
  cases x1
  · cases x2
    · simp only [Bool.false_eq_true, if_false]
      go_wp2_with (first | (go_at_call 51; (with_reducible refine (C0.out _ (bstep L0.out (by assumption))).mono ?_); rintro e2 w2 ⟨rfl, b2⟩; have b2' := bstep (by assumption : Below w1.heap.size w1 _) b2; clear b2) | (go_at_call 52; (with_reducible refine (C1.out _ (bstep L0.out (bA _ _ b2'))).mono ?_); rintro e3 w3 ⟨rfl, b3⟩; have b3' := bstep (bA _ _ b2') b3; clear b3))
      have d2 := Cells.below (bA _ (.cells #[.int .i64 R2.k, .int .u8 R2.p, .int .u32 R2.sa, .int .i64 R2.sb, .int .u32 R2.da, .int .i64 R2.db, .int .u32 R2.e, .int .u16 R2.f, .int .u16 R2.t, .int .u32 R2.ia, .int .u16 R2.ip] 77) b3') D1.out
      have l2 := bstep L0.out (bA _ (.cells #[.int .i64 R2.k, .int .u8 R2.p, .int .u32 R2.sa, .int .i64 R2.sb, .int .u32 R2.da, .int .i64 R2.db, .int .u32 R2.e, .int .u16 R2.f, .int .u16 R2.t, .int .u32 R2.ia, .int .u16 R2.ip] 77) b3')
      clear qd0_0 qd0_1 qd0_2 qd0_3 qd0_4 qd1_0 qd1_1 qd1_2 qd1_3 qd1_4 qd1_5 qd1_6 qd1_7 fz bb L0 D0 D1 C0 C1 bA
      have r5 := (Cells.put8 d2 (.bool false) (.int .u32 0) (.int .u16 0) (.int .u32 0) (.int .u16 0) (.int .u32 0) (.int .u16 0) (.int .u16 0))
      have b5 := (Below.put8 l2 (b := w.heap.size + 1) (by first | exact Nat.le_refl _ | omega) (.bool false) (.int .u32 0) (.int .u16 0) (.int .u32 0) (.int .u16 0) (.int .u32 0) (.int .u16 0) (.int .u16 0))
      have HR5 := hide r5; have HB5 := hide b5
      clear r5 b5 d2
      generalize ((((((((((w3.alloc (.cells #[.int .i64 R2.k, .int .u8 R2.p, .int .u32 R2.sa, .int .i64 R2.sb, .int .u32 R2.da, .int .i64 R2.db, .int .u32 R2.e, .int .u16 R2.f, .int .u16 R2.t, .int .u32 R2.ia, .int .u16 R2.ip] 77))).setCell ⟨w.heap.size + 1, 0, none⟩ (.bool false)).setCell ⟨w.heap.size + 1, 1, none⟩ (.int .u32 0)).setCell ⟨w.heap.size + 1, 2, none⟩ (.int .u16 0)).setCell ⟨w.heap.size + 1, 3, none⟩ (.int .u32 0)).setCell ⟨w.heap.size + 1, 4, none⟩ (.int .u16 0)).setCell ⟨w.heap.size + 1, 5, none⟩ (.int .u32 0)).setCell ⟨w.heap.size + 1, 6, none⟩ (.int .u16 0)).setCell ⟨w.heap.size + 1, 7, none⟩ (.int .u16 0)) = W5 at *
      have r5 := HR5.out; have b5 := HB5.out
      clear HR5 HB5
      have xr5_0 : W5.cell? ⟨w.heap.size + 1, 0, none⟩ = some (.bool false) := r5.at_ 0
      have xr5_1 : W5.cell? ⟨w.heap.size + 1, 1, none⟩ = some (.int .u32 0) := r5.at_ 1
      have xr5_2 : W5.cell? ⟨w.heap.size + 1, 2, none⟩ = some (.int .u16 0) := r5.at_ 2
      have xr5_3 : W5.cell? ⟨w.heap.size + 1, 3, none⟩ = some (.int .u32 0) := r5.at_ 3
      have xr5_4 : W5.cell? ⟨w.heap.size + 1, 4, none⟩ = some (.int .u16 0) := r5.at_ 4
      have xr5_5 : W5.cell? ⟨w.heap.size + 1, 5, none⟩ = some (.int .u32 0) := r5.at_ 5
      have xr5_6 : W5.cell? ⟨w.heap.size + 1, 6, none⟩ = some (.int .u16 0) := r5.at_ 6
      have xr5_7 : W5.cell? ⟨w.heap.size + 1, 7, none⟩ = some (.int .u16 0) := r5.at_ 7
      (try simp only [Exit.inBlock, Exit.then]); refine bodyPost_ret (by simp [results, Tryd.results39, go_sem, *]; try rfl) rfl ?_
      exact ⟨rfl, b5⟩
    · simp only [Bool.false_eq_true, if_false, if_true]
      go_wp2_with (first | (go_at_call 51; (with_reducible refine (C0.out _ (bstep L0.out (by assumption))).mono ?_); rintro e2 w2 ⟨rfl, b2⟩; have b2' := bstep (by assumption : Below w1.heap.size w1 _) b2; clear b2) | (go_at_call 52; (with_reducible refine (C1.out _ (bstep L0.out (bA _ _ b2'))).mono ?_); rintro e3 w3 ⟨rfl, b3⟩; have b3' := bstep (bA _ _ b2') b3; clear b3))
      have d2 := Cells.below (bA _ (.cells #[.int .i64 R2.k, .int .u8 R2.p, .int .u32 R2.sa, .int .i64 R2.sb, .int .u32 R2.da, .int .i64 R2.db, .int .u32 R2.e, .int .u16 R2.f, .int .u16 R2.t, .int .u32 R2.ia, .int .u16 R2.ip] 77) b3') D1.out
      have l2 := bstep L0.out (bA _ (.cells #[.int .i64 R2.k, .int .u8 R2.p, .int .u32 R2.sa, .int .i64 R2.sb, .int .u32 R2.da, .int .i64 R2.db, .int .u32 R2.e, .int .u16 R2.f, .int .u16 R2.t, .int .u32 R2.ia, .int .u16 R2.ip] 77) b3')
      clear qd0_0 qd0_1 qd0_2 qd0_3 qd0_4 qd1_0 qd1_1 qd1_2 qd1_3 qd1_4 qd1_5 qd1_6 qd1_7 fz bb L0 D0 D1 C0 C1 bA
      have r5 := (Cells.put8 d2 (.bool false) (.int .u32 si) (.int .u16 sp) (.int .u32 0) (.int .u16 0) (.int .u32 R2.e) (.int .u16 R2.f) (.int .u16 R2.t))
      have b5 := (Below.put8 l2 (b := w.heap.size + 1) (by first | exact Nat.le_refl _ | omega) (.bool false) (.int .u32 si) (.int .u16 sp) (.int .u32 0) (.int .u16 0) (.int .u32 R2.e) (.int .u16 R2.f) (.int .u16 R2.t))
      have HR5 := hide r5; have HB5 := hide b5
      clear r5 b5 d2
      generalize ((((((((((w3.alloc (.cells #[.int .i64 R2.k, .int .u8 R2.p, .int .u32 R2.sa, .int .i64 R2.sb, .int .u32 R2.da, .int .i64 R2.db, .int .u32 R2.e, .int .u16 R2.f, .int .u16 R2.t, .int .u32 R2.ia, .int .u16 R2.ip] 77))).setCell ⟨w.heap.size + 1, 0, none⟩ (.bool false)).setCell ⟨w.heap.size + 1, 1, none⟩ (.int .u32 si)).setCell ⟨w.heap.size + 1, 2, none⟩ (.int .u16 sp)).setCell ⟨w.heap.size + 1, 3, none⟩ (.int .u32 0)).setCell ⟨w.heap.size + 1, 4, none⟩ (.int .u16 0)).setCell ⟨w.heap.size + 1, 5, none⟩ (.int .u32 R2.e)).setCell ⟨w.heap.size + 1, 6, none⟩ (.int .u16 R2.f)).setCell ⟨w.heap.size + 1, 7, none⟩ (.int .u16 R2.t)) = W5 at *
      have r5 := HR5.out; have b5 := HB5.out
      clear HR5 HB5
      have xr5_0 : W5.cell? ⟨w.heap.size + 1, 0, none⟩ = some (.bool false) := r5.at_ 0
      have xr5_1 : W5.cell? ⟨w.heap.size + 1, 1, none⟩ = some (.int .u32 si) := r5.at_ 1
      have xr5_2 : W5.cell? ⟨w.heap.size + 1, 2, none⟩ = some (.int .u16 sp) := r5.at_ 2
      have xr5_3 : W5.cell? ⟨w.heap.size + 1, 3, none⟩ = some (.int .u32 0) := r5.at_ 3
      have xr5_4 : W5.cell? ⟨w.heap.size + 1, 4, none⟩ = some (.int .u16 0) := r5.at_ 4
      have xr5_5 : W5.cell? ⟨w.heap.size + 1, 5, none⟩ = some (.int .u32 R2.e) := r5.at_ 5
      have xr5_6 : W5.cell? ⟨w.heap.size + 1, 6, none⟩ = some (.int .u16 R2.f) := r5.at_ 6
      have xr5_7 : W5.cell? ⟨w.heap.size + 1, 7, none⟩ = some (.int .u16 R2.t) := r5.at_ 7
      (try simp only [Exit.inBlock, Exit.then]); refine bodyPost_ret (by simp [results, Tryd.results39, go_sem, *]; try rfl) rfl ?_
      exact ⟨rfl, b5⟩
  · simp only [if_true]
    go_wp2_with (first | (go_at_call 51; (with_reducible refine (C0.out _ (bstep L0.out (by assumption))).mono ?_); rintro e2 w2 ⟨rfl, b2⟩; have b2' := bstep (by assumption : Below w1.heap.size w1 _) b2; clear b2) | (go_at_call 52; (with_reducible refine (C1.out _ (bstep L0.out (bA _ _ b2'))).mono ?_); rintro e3 w3 ⟨rfl, b3⟩; have b3' := bstep (bA _ _ b2') b3; clear b3))
    have d2 := Cells.below (bA _ (.cells #[.int .i64 R1.k, .int .u8 R1.p, .int .u32 R1.sa, .int .i64 R1.sb, .int .u32 R1.da, .int .i64 R1.db, .int .u32 R1.e, .int .u16 R1.f, .int .u16 R1.t, .int .u32 R1.ia, .int .u16 R1.ip] 77) b2') D1.out
    have l2 := bstep L0.out (bA _ (.cells #[.int .i64 R1.k, .int .u8 R1.p, .int .u32 R1.sa, .int .i64 R1.sb, .int .u32 R1.da, .int .i64 R1.db, .int .u32 R1.e, .int .u16 R1.f, .int .u16 R1.t, .int .u32 R1.ia, .int .u16 R1.ip] 77) b2')
    clear qd0_0 qd0_1 qd0_2 qd0_3 qd0_4 qd1_0 qd1_1 qd1_2 qd1_3 qd1_4 qd1_5 qd1_6 qd1_7 fz bb L0 D0 D1 C0 C1 bA
    have r5 := (Cells.put8 d2 (.bool true) (.int .u32 si) (.int .u16 sp) (.int .u32 R1.e) (.int .u16 R1.f) (.int .u32 0) (.int .u16 0) (.int .u16 0))
    have b5 := (Below.put8 l2 (b := w.heap.size + 1) (by first | exact Nat.le_refl _ | omega) (.bool true) (.int .u32 si) (.int .u16 sp) (.int .u32 R1.e) (.int .u16 R1.f) (.int .u32 0) (.int .u16 0) (.int .u16 0))
    have HR5 := hide r5; have HB5 := hide b5
    clear r5 b5 d2
    generalize ((((((((((w2.alloc (.cells #[.int .i64 R1.k, .int .u8 R1.p, .int .u32 R1.sa, .int .i64 R1.sb, .int .u32 R1.da, .int .i64 R1.db, .int .u32 R1.e, .int .u16 R1.f, .int .u16 R1.t, .int .u32 R1.ia, .int .u16 R1.ip] 77))).setCell ⟨w.heap.size + 1, 0, none⟩ (.bool true)).setCell ⟨w.heap.size + 1, 1, none⟩ (.int .u32 si)).setCell ⟨w.heap.size + 1, 2, none⟩ (.int .u16 sp)).setCell ⟨w.heap.size + 1, 3, none⟩ (.int .u32 R1.e)).setCell ⟨w.heap.size + 1, 4, none⟩ (.int .u16 R1.f)).setCell ⟨w.heap.size + 1, 5, none⟩ (.int .u32 0)).setCell ⟨w.heap.size + 1, 6, none⟩ (.int .u16 0)).setCell ⟨w.heap.size + 1, 7, none⟩ (.int .u16 0)) = W5 at *
    have r5 := HR5.out; have b5 := HB5.out
    clear HR5 HB5
    have xr5_0 : W5.cell? ⟨w.heap.size + 1, 0, none⟩ = some (.bool true) := r5.at_ 0
    have xr5_1 : W5.cell? ⟨w.heap.size + 1, 1, none⟩ = some (.int .u32 si) := r5.at_ 1
    have xr5_2 : W5.cell? ⟨w.heap.size + 1, 2, none⟩ = some (.int .u16 sp) := r5.at_ 2
    have xr5_3 : W5.cell? ⟨w.heap.size + 1, 3, none⟩ = some (.int .u32 R1.e) := r5.at_ 3
    have xr5_4 : W5.cell? ⟨w.heap.size + 1, 4, none⟩ = some (.int .u16 R1.f) := r5.at_ 4
    have xr5_5 : W5.cell? ⟨w.heap.size + 1, 5, none⟩ = some (.int .u32 0) := r5.at_ 5
    have xr5_6 : W5.cell? ⟨w.heap.size + 1, 6, none⟩ = some (.int .u16 0) := r5.at_ 6
    have xr5_7 : W5.cell? ⟨w.heap.size + 1, 7, none⟩ = some (.int .u16 0) := r5.at_ 7
    (try simp only [Exit.inBlock, Exit.then]); refine bodyPost_ret (by simp [results, Tryd.results39, go_sem, *]; try rfl) rfl ?_
    exact ⟨rfl, b5⟩
end Go.Proofs.YtilfcikhipadpaaDoor
end

section
/- rules: Copy, New. -/
set_option linter.unusedVariables false
set_option linter.unusedSimpArgs false
namespace Go.Proofs.YtilfcikhipadpaaDoor
open Go.RowKit Go.Lib
attribute [local go_sem] Oper.semAt_some

theorem Cells.put5 {w : World} {b : Nat} {a0 a1 a2 a3 a4 : Value} {T : TypeId} (h : Cells w b #[a0, a1, a2, a3, a4] T) (v0 v1 v2 v3 v4 : Value) : Cells (((((w.setCell ⟨b, 0, none⟩ v0).setCell ⟨b, 1, none⟩ v1).setCell ⟨b, 2, none⟩ v2).setCell ⟨b, 3, none⟩ v3).setCell ⟨b, 4, none⟩ v4) b #[v0, v1, v2, v3, v4] T := by
  have h0 : Cells (w.setCell ⟨b, 0, none⟩ v0) b #[v0, a1, a2, a3, a4] T := h.set_ 0 v0
  have h1 : Cells ((w.setCell ⟨b, 0, none⟩ v0).setCell ⟨b, 1, none⟩ v1) b #[v0, v1, a2, a3, a4] T := h0.set_ 1 v1
  have h2 : Cells (((w.setCell ⟨b, 0, none⟩ v0).setCell ⟨b, 1, none⟩ v1).setCell ⟨b, 2, none⟩ v2) b #[v0, v1, v2, a3, a4] T := h1.set_ 2 v2
  have h3 : Cells ((((w.setCell ⟨b, 0, none⟩ v0).setCell ⟨b, 1, none⟩ v1).setCell ⟨b, 2, none⟩ v2).setCell ⟨b, 3, none⟩ v3) b #[v0, v1, v2, v3, a4] T := h2.set_ 3 v3
  exact h3.set_ 4 v4
theorem Below.put5 {w w' : World} {n b : Nat} (h : Below n w w') (hb : n ≤ b) (v0 v1 v2 v3 v4 : Value) : Below n w (((((w'.setCell ⟨b, 0, none⟩ v0).setCell ⟨b, 1, none⟩ v1).setCell ⟨b, 2, none⟩ v2).setCell ⟨b, 3, none⟩ v3).setCell ⟨b, 4, none⟩ v4) := Below.setCell (Below.setCell (Below.setCell (Below.setCell (Below.setCell h (p := ⟨b, 0, none⟩) hb v0) (p := ⟨b, 1, none⟩) hb v1) (p := ⟨b, 2, none⟩) hb v2) (p := ⟨b, 3, none⟩) hb v3) (p := ⟨b, 4, none⟩) hb v4

/-- a new table -/
def newOk (o ip b : Int) : Bool := mayP ip b && !hasP ip b o
set_option maxHeartbeats 4000000 in
set_option maxRecDepth 100000 in
theorem t_New (w : World) (o ip b : Int) (hi : 0 ≤ ip ∧ ip ≤ 4294967295) (ho : 0 ≤ o ∧ o ≤ 4294967295) :
    Calls Tryd.prog 21 #[.int .u32 o, .agg #[.int .u32 ip, .int .i64 b]] w fun e w' => if newOk o ip b = true then ∃ B', e = .returned (.tuple #[.pointer (some ⟨B', 0, none⟩), .int .i64 0]) ∧ TS w' B' o ip b [] (.slice none 0 0) ∧ Below w.heap.size w w' ∧ w.heap.size ≤ B' else e = .returned (.tuple #[.pointer none, .int .i64 2]) ∧ Below w.heap.size w w' := by
  have c0 := fun W => addrs_May ip b W hi
  have c1 := fun W => addrs_Has ip b o W hi ho
  unfold newOk
  generalize mayP ip b = q1 at *
  generalize hasP ip b o = q2 at *
  have C0 := hide c0; have C1 := hide c1
  clear c0 c1 hi ho
  cases q1 <;> cases q2
  all_goals
    simp only [Bool.false_and, Bool.true_and, Bool.not_true, Bool.not_false, Bool.false_eq_true, if_true, if_false]
    go_enter Tryd.func21, Tryd.ntmps21
    have d := Cells.new w #[.int .u32 ip, .int .i64 b] 74
    have l0 := fresh_below w (.cells #[.int .u32 ip, .int .i64 b] 74)
    have L0 := hide l0; have D0 := hide d
    clear l0 d
    go_upto_region 1 with fail
    have l0 := L0.out; have d := D0.out
    clear L0 D0
    generalize (w.alloc (.cells #[.int .u32 ip, .int .i64 b] 74)) = w1 at *
    have qd_0 : ∀ W', Below w1.heap.size w1 W' → World.cell? W' ⟨w.heap.size, 0, none⟩ = some (.int .u32 ip) := fun W' h => Cells.at_ (Cells.below h d) 0
    have qd_1 : ∀ W', Below w1.heap.size w1 W' → World.cell? W' ⟨w.heap.size, 1, none⟩ = some (.int .i64 b) := fun W' h => Cells.at_ (Cells.below h d) 1
    have bb : Below w1.heap.size w1 w1 := Below.refl _ _
    have L0 := hide l0
    clear l0 d
    go_wp2_with (first | (go_at_call 28; (with_reducible refine (C0.out _).mono ?_); rintro e2 w2 ⟨rfl, b2⟩; have b2' := bstep (by assumption : Below w1.heap.size w1 _) b2; clear b2) | (go_at_call 29; (with_reducible refine (C1.out _).mono ?_); rintro e2 w2 ⟨rfl, b2⟩; have b2' := bstep (by assumption : Below w1.heap.size w1 _) b2; clear b2))
    (try simp only [Exit.inBlock, Exit.then]); refine bodyPost_ret (by simp [results, Tryd.results21, go_sem, *]; try rfl) rfl ?_
    first
    | exact ⟨rfl, bstep L0.out (by assumption)⟩
    | (have hb := bstep L0.out b2'; exact ⟨_, rfl, ⟨Cells.new w2 _ _, RR.nil _, by intro e; cases e⟩, bstep hb (fresh_below _ _), hb.size⟩)
end Go.Proofs.YtilfcikhipadpaaDoor
end
