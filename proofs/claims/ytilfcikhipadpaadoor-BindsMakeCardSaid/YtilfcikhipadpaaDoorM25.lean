/- Several texts of this claim, one behind the other. -/
import Derived.Test.YtilfcikhipadpaaDoorM22
import Derived.Test.YtilfcikhipadpaaDoorM24

section
/- The document's Make (porterref20): a plan without a source. -/
set_option linter.unusedVariables false
set_option linter.unusedSimpArgs false
namespace Go.Proofs.YtilfcikhipadpaaDoor
open Go.RowKit Go.Lib
attribute [local go_sem] Oper.semAt_some envL lookV

theorem Grow.turna {α : Type} {K : RowK α} {wq W W' : World} {g : Nat} {f f' : Value → Array Value} {T : TypeId} {l : List α} {V : Value} (h : Grow K wq g f T l V W) (hc : Cells W' g (f' V) T) (k : Only (fun j => j = g) W W') : Grow K wq g f' T l V W' :=
  ⟨hc, Own.other h.own k (fun e => Nat.lt_irrefl _ (h.up _ e)), h.up, h.b.trans (k.below (fun j e => by omega) (Nat.le_of_lt (Cells.lt h.c)))⟩
theorem Grow.quieta {α : Type} {K : RowK α} {wq W W' : World} {g : Nat} {f : Value → Array Value} {T : TypeId} {l : List α} {V : Value} (h : Grow K wq g f T l V W) (k : Below W.heap.size W W') : Grow K wq g f T l V W' :=
  ⟨Cells.below k h.c, h.own.below k, h.up, h.b.trans (k.mono (Nat.le_of_lt (Cells.lt h.c)))⟩
set_option maxHeartbeats 16000000 in
set_option maxRecDepth 100000 in
theorem d_Make_a (w : World) (q : Pln) (A Ao : Option Addr) (n c co : Nat) (os : List Pt) (now : Int) (hn : n = q.ws.length) (hA : dwantK.Has w A q.ws) (hno : n = os.length) (hO : pointK.Has w Ao os) (hn6 : n ≤ 1000) (hc : n ≤ c) (hco : n ≤ co) (n0 : 0 ≤ now) (n1 : now ≤ 1099511627776) (hs : q.src = false) :
    Calls Tryd.prog 9 #[.agg #[.int .u8 q.x.p, .int .u32 q.x.si, .int .u16 q.x.sp, .int .u32 q.x.di, .int .u16 q.x.dp, .int .u32 q.di, .int .u16 q.dp, .bool false, .int .i64 q.st, .slice A n c], .slice Ao n co, .int .i64 now] w (Made dholdK w (makeV q os now)) := by
  skip
  have hent : entOf q os now = ⟨q.x, ⟨q.x.p, q.di, q.dp, q.x.si, q.x.sp⟩, q.st, now + timeV (flowV q.x.p) q.st, holdsL q.ws os⟩ := by
    unfold entOf srcOf
    rw [hs]
    skip
  have hmk : makeV q os now = if fitsL q.ws os = false then (zeroE, 2) else if entMay (entOf q os now) = false then (zeroE, 2) else (entOf q os now, 0) := by
    unfold makeV
    rw [if_neg (by omega)]
  rw [hent] at hmk
  clear hent
  have hlen : (holdsL q.ws os).length = n := by rw [holdsL_len _ _ (by omega)]; omega
  obtain ⟨tv, htv⟩ : ∃ tv, timeV (flowV q.x.p) q.st = tv := ⟨_, rfl⟩
  have htb : 0 ≤ tv ∧ tv ≤ 7440 := by rw [← htv]; exact timeV_bd _ _
  rw [htv] at hmk
  obtain ⟨ENT, hENT⟩ : ∃ ENT : Ent, ENT = ⟨q.x, ⟨q.x.p, q.di, q.dp, q.x.si, q.x.sp⟩, q.st, now + tv, holdsL q.ws os⟩ := ⟨_, rfl⟩
  rw [← hENT] at hmk
  obtain ⟨RV, hRV⟩ : ∃ RV, makeV q os now = RV := ⟨_, rfl⟩
  rw [hRV]
  rw [hRV] at hmk
  have HRV := hide hmk
  clear hmk hRV
  have HN := hide hn; have HNO := hide hno; have HA := hide hA; have HO := hide hO; have HLEN := hide hlen; have HTV := hide htv; have HTB := hide htb; have HENT := hide hENT
  have u0 : ¬ now < 0 := by omega
  have u1 : ¬ 1099511627776 < now := by omega
  have N0 := hide n0; have N1 := hide n1
  have hnz : (n : Int) ≤ 1000 := by omega
  clear hn hno hA hO hn6 hlen htv htb hENT n0 n1 hs
  go_enter Tryd.func9, Tryd.ntmps9
  have d0 := Cells.new w #[.int .u8 q.x.p, .int .u32 q.x.si, .int .u16 q.x.sp, .int .u32 q.x.di, .int .u16 q.x.dp, .int .u32 q.di, .int .u16 q.dp, .bool false, .int .i64 q.st, .slice A n c] 36
  replace d0 := Cells.below (fresh_below (w.alloc (.cells #[.int .u8 q.x.p, .int .u32 q.x.si, .int .u16 q.x.sp, .int .u32 q.x.di, .int .u16 q.x.dp, .int .u32 q.di, .int .u16 q.dp, .bool false, .int .i64 q.st, .slice A n c] 36)) (.cells #[.int .u8 0, .int .u32 0, .int .u16 0, .int .u32 0, .int .u16 0, .int .u8 0, .int .u32 0, .int .u16 0, .int .u32 0, .int .u16 0, .int .i64 0, .int .i64 0, .slice none 0 0] 51)) d0
  have d1 := Cells.new (w.alloc (.cells #[.int .u8 q.x.p, .int .u32 q.x.si, .int .u16 q.x.sp, .int .u32 q.x.di, .int .u16 q.x.dp, .int .u32 q.di, .int .u16 q.dp, .bool false, .int .i64 q.st, .slice A n c] 36)) #[.int .u8 0, .int .u32 0, .int .u16 0, .int .u32 0, .int .u16 0, .int .u8 0, .int .u32 0, .int .u16 0, .int .u32 0, .int .u16 0, .int .i64 0, .int .i64 0, .slice none 0 0] 51
  have l0 : Below w.heap.size w ((w.alloc (.cells #[.int .u8 q.x.p, .int .u32 q.x.si, .int .u16 q.x.sp, .int .u32 q.x.di, .int .u16 q.x.dp, .int .u32 q.di, .int .u16 q.dp, .bool false, .int .i64 q.st, .slice A n c] 36)).alloc (.cells #[.int .u8 0, .int .u32 0, .int .u16 0, .int .u32 0, .int .u16 0, .int .u8 0, .int .u32 0, .int .u16 0, .int .u32 0, .int .u16 0, .int .i64 0, .int .i64 0, .slice none 0 0] 51)) := (bstep (fresh_below _ _) (fresh_below _ _))
  simp only [World.size_alloc] at d1
  have L0 := hide l0; have D0 := hide d0; have D1 := hide d1
  clear l0 d0 d1
  go_upto_region 1 with fail
  have l0 := L0.out; have d0 := D0.out; have d1 := D1.out
  clear L0 D0 D1
  generalize ((w.alloc (.cells #[.int .u8 q.x.p, .int .u32 q.x.si, .int .u16 q.x.sp, .int .u32 q.x.di, .int .u16 q.x.dp, .int .u32 q.di, .int .u16 q.dp, .bool false, .int .i64 q.st, .slice A n c] 36)).alloc (.cells #[.int .u8 0, .int .u32 0, .int .u16 0, .int .u32 0, .int .u16 0, .int .u8 0, .int .u32 0, .int .u16 0, .int .u32 0, .int .u16 0, .int .i64 0, .int .i64 0, .slice none 0 0] 51)) = w1 at *
  have qd0_0 : ∀ W', Below w1.heap.size w1 W' → World.cell? W' ⟨w.heap.size, 0, none⟩ = some (.int .u8 q.x.p) := fun W' h => Cells.at_ (Cells.below h d0) 0
  have qd0_1 : ∀ W', Below w1.heap.size w1 W' → World.cell? W' ⟨w.heap.size, 1, none⟩ = some (.int .u32 q.x.si) := fun W' h => Cells.at_ (Cells.below h d0) 1
  have qd0_2 : ∀ W', Below w1.heap.size w1 W' → World.cell? W' ⟨w.heap.size, 2, none⟩ = some (.int .u16 q.x.sp) := fun W' h => Cells.at_ (Cells.below h d0) 2
  have qd0_3 : ∀ W', Below w1.heap.size w1 W' → World.cell? W' ⟨w.heap.size, 3, none⟩ = some (.int .u32 q.x.di) := fun W' h => Cells.at_ (Cells.below h d0) 3
  have qd0_4 : ∀ W', Below w1.heap.size w1 W' → World.cell? W' ⟨w.heap.size, 4, none⟩ = some (.int .u16 q.x.dp) := fun W' h => Cells.at_ (Cells.below h d0) 4
  have qd0_5 : ∀ W', Below w1.heap.size w1 W' → World.cell? W' ⟨w.heap.size, 5, none⟩ = some (.int .u32 q.di) := fun W' h => Cells.at_ (Cells.below h d0) 5
  have qd0_6 : ∀ W', Below w1.heap.size w1 W' → World.cell? W' ⟨w.heap.size, 6, none⟩ = some (.int .u16 q.dp) := fun W' h => Cells.at_ (Cells.below h d0) 6
  have qd0_7 : ∀ W', Below w1.heap.size w1 W' → World.cell? W' ⟨w.heap.size, 7, none⟩ = some (.bool false) := fun W' h => Cells.at_ (Cells.below h d0) 7
  have qd0_8 : ∀ W', Below w1.heap.size w1 W' → World.cell? W' ⟨w.heap.size, 8, none⟩ = some (.int .i64 q.st) := fun W' h => Cells.at_ (Cells.below h d0) 8
  have qd0_9 : ∀ W', Below w1.heap.size w1 W' → World.cell? W' ⟨w.heap.size, 9, none⟩ = some (.slice A n c) := fun W' h => Cells.at_ (Cells.below h d0) 9
  have qd1_0 : ∀ W', Below w1.heap.size w1 W' → World.cell? W' ⟨w.heap.size + 1, 0, none⟩ = some (.int .u8 0) := fun W' h => Cells.at_ (Cells.below h d1) 0
  have qd1_1 : ∀ W', Below w1.heap.size w1 W' → World.cell? W' ⟨w.heap.size + 1, 1, none⟩ = some (.int .u32 0) := fun W' h => Cells.at_ (Cells.below h d1) 1
  have qd1_2 : ∀ W', Below w1.heap.size w1 W' → World.cell? W' ⟨w.heap.size + 1, 2, none⟩ = some (.int .u16 0) := fun W' h => Cells.at_ (Cells.below h d1) 2
  have qd1_3 : ∀ W', Below w1.heap.size w1 W' → World.cell? W' ⟨w.heap.size + 1, 3, none⟩ = some (.int .u32 0) := fun W' h => Cells.at_ (Cells.below h d1) 3
  have qd1_4 : ∀ W', Below w1.heap.size w1 W' → World.cell? W' ⟨w.heap.size + 1, 4, none⟩ = some (.int .u16 0) := fun W' h => Cells.at_ (Cells.below h d1) 4
  have qd1_5 : ∀ W', Below w1.heap.size w1 W' → World.cell? W' ⟨w.heap.size + 1, 5, none⟩ = some (.int .u8 0) := fun W' h => Cells.at_ (Cells.below h d1) 5
  have qd1_6 : ∀ W', Below w1.heap.size w1 W' → World.cell? W' ⟨w.heap.size + 1, 6, none⟩ = some (.int .u32 0) := fun W' h => Cells.at_ (Cells.below h d1) 6
  have qd1_7 : ∀ W', Below w1.heap.size w1 W' → World.cell? W' ⟨w.heap.size + 1, 7, none⟩ = some (.int .u16 0) := fun W' h => Cells.at_ (Cells.below h d1) 7
  have qd1_8 : ∀ W', Below w1.heap.size w1 W' → World.cell? W' ⟨w.heap.size + 1, 8, none⟩ = some (.int .u32 0) := fun W' h => Cells.at_ (Cells.below h d1) 8
  have qd1_9 : ∀ W', Below w1.heap.size w1 W' → World.cell? W' ⟨w.heap.size + 1, 9, none⟩ = some (.int .u16 0) := fun W' h => Cells.at_ (Cells.below h d1) 9
  have qd1_10 : ∀ W', Below w1.heap.size w1 W' → World.cell? W' ⟨w.heap.size + 1, 10, none⟩ = some (.int .i64 0) := fun W' h => Cells.at_ (Cells.below h d1) 10
  have qd1_11 : ∀ W', Below w1.heap.size w1 W' → World.cell? W' ⟨w.heap.size + 1, 11, none⟩ = some (.int .i64 0) := fun W' h => Cells.at_ (Cells.below h d1) 11
  have qd1_12 : ∀ W', Below w1.heap.size w1 W' → World.cell? W' ⟨w.heap.size + 1, 12, none⟩ = some (.slice none 0 0) := fun W' h => Cells.at_ (Cells.below h d1) 12
  have bb : Below w1.heap.size w1 w1 := Below.refl _ _
  have L0 := hide l0; have D0 := hide d0; have D1 := hide d1
  clear l0 d0 d1
  go_upto_region 4 with fail
  clear u0 u1
  have nn := Cells.new w1 #[.int .u8 q.x.p, .int .u32 q.x.si, .int .u16 q.x.sp, .int .u32 q.x.di, .int .u16 q.x.dp, .int .u8 0, .int .u32 0, .int .u16 0, .int .u32 0, .int .u16 0, .int .i64 q.st, .int .i64 0, .slice none 0 0] 51
  have bn := fresh_below w1 (.cells #[.int .u8 q.x.p, .int .u32 q.x.si, .int .u16 q.x.sp, .int .u32 q.x.di, .int .u16 q.x.dp, .int .u8 0, .int .u32 0, .int .u16 0, .int .u32 0, .int .u16 0, .int .i64 q.st, .int .i64 0, .slice none 0 0] 51)
  have hg8 : w.heap.size + 1 < w1.heap.size := Cells.lt D1.out
  replace D0 := hide (Cells.below bn D0.out); replace D1 := hide (Cells.below bn D1.out); replace L0 := hide (bstep L0.out bn)
  clear bn bb qd0_0 qd0_1 qd0_2 qd0_3 qd0_4 qd0_5 qd0_6 qd0_7 qd0_8 qd0_9 qd1_0 qd1_1 qd1_2 qd1_3 qd1_4 qd1_5 qd1_6 qd1_7 qd1_8 qd1_9 qd1_10 qd1_11 qd1_12
  generalize w1.heap.size = g8 at nn hg8 ⊢
  generalize (w1.alloc (.cells #[.int .u8 q.x.p, .int .u32 q.x.si, .int .u16 q.x.sp, .int .u32 q.x.di, .int .u16 q.x.dp, .int .u8 0, .int .u32 0, .int .u16 0, .int .u32 0, .int .u16 0, .int .i64 q.st, .int .i64 0, .slice none 0 0] 51)) = w4 at *
  have D8 := hide nn; have HG8 := hide hg8
  clear nn hg8
  have d0 := D0.out; have d8 := D8.out
  have qd0_0 : ∀ W', Below w4.heap.size w4 W' → World.cell? W' ⟨w.heap.size, 0, none⟩ = some (.int .u8 q.x.p) := fun W' h => Cells.at_ (Cells.below h d0) 0
  have qd0_1 : ∀ W', Below w4.heap.size w4 W' → World.cell? W' ⟨w.heap.size, 1, none⟩ = some (.int .u32 q.x.si) := fun W' h => Cells.at_ (Cells.below h d0) 1
  have qd0_2 : ∀ W', Below w4.heap.size w4 W' → World.cell? W' ⟨w.heap.size, 2, none⟩ = some (.int .u16 q.x.sp) := fun W' h => Cells.at_ (Cells.below h d0) 2
  have qd0_3 : ∀ W', Below w4.heap.size w4 W' → World.cell? W' ⟨w.heap.size, 3, none⟩ = some (.int .u32 q.x.di) := fun W' h => Cells.at_ (Cells.below h d0) 3
  have qd0_4 : ∀ W', Below w4.heap.size w4 W' → World.cell? W' ⟨w.heap.size, 4, none⟩ = some (.int .u16 q.x.dp) := fun W' h => Cells.at_ (Cells.below h d0) 4
  have qd0_5 : ∀ W', Below w4.heap.size w4 W' → World.cell? W' ⟨w.heap.size, 5, none⟩ = some (.int .u32 q.di) := fun W' h => Cells.at_ (Cells.below h d0) 5
  have qd0_6 : ∀ W', Below w4.heap.size w4 W' → World.cell? W' ⟨w.heap.size, 6, none⟩ = some (.int .u16 q.dp) := fun W' h => Cells.at_ (Cells.below h d0) 6
  have qd0_7 : ∀ W', Below w4.heap.size w4 W' → World.cell? W' ⟨w.heap.size, 7, none⟩ = some (.bool false) := fun W' h => Cells.at_ (Cells.below h d0) 7
  have qd0_8 : ∀ W', Below w4.heap.size w4 W' → World.cell? W' ⟨w.heap.size, 8, none⟩ = some (.int .i64 q.st) := fun W' h => Cells.at_ (Cells.below h d0) 8
  have qd0_9 : ∀ W', Below w4.heap.size w4 W' → World.cell? W' ⟨w.heap.size, 9, none⟩ = some (.slice A n c) := fun W' h => Cells.at_ (Cells.below h d0) 9
  have bb : Below w4.heap.size w4 w4 := Below.refl _ _
  have fz : ∀ W' i, Below w4.heap.size w4 W' → World.frozen? W' ⟨g8, i, none⟩ = false := fun W' i h => Cells.free (Cells.below h d8) i
  have qd8_0 : ∀ W', Below w4.heap.size w4 W' → World.cell? W' ⟨g8, 0, none⟩ = some (.int .u8 q.x.p) := fun W' h => Cells.at_ (Cells.below h d8) 0
  have qd8_1 : ∀ W', Below w4.heap.size w4 W' → World.cell? W' ⟨g8, 1, none⟩ = some (.int .u32 q.x.si) := fun W' h => Cells.at_ (Cells.below h d8) 1
  have qd8_2 : ∀ W', Below w4.heap.size w4 W' → World.cell? W' ⟨g8, 2, none⟩ = some (.int .u16 q.x.sp) := fun W' h => Cells.at_ (Cells.below h d8) 2
  have qd8_3 : ∀ W', Below w4.heap.size w4 W' → World.cell? W' ⟨g8, 3, none⟩ = some (.int .u32 q.x.di) := fun W' h => Cells.at_ (Cells.below h d8) 3
  have qd8_4 : ∀ W', Below w4.heap.size w4 W' → World.cell? W' ⟨g8, 4, none⟩ = some (.int .u16 q.x.dp) := fun W' h => Cells.at_ (Cells.below h d8) 4
  have qd8_5 : ∀ W', Below w4.heap.size w4 W' → World.cell? W' ⟨g8, 5, none⟩ = some (.int .u8 0) := fun W' h => Cells.at_ (Cells.below h d8) 5
  have qd8_6 : ∀ W', Below w4.heap.size w4 W' → World.cell? W' ⟨g8, 6, none⟩ = some (.int .u32 0) := fun W' h => Cells.at_ (Cells.below h d8) 6
  have qd8_7 : ∀ W', Below w4.heap.size w4 W' → World.cell? W' ⟨g8, 7, none⟩ = some (.int .u16 0) := fun W' h => Cells.at_ (Cells.below h d8) 7
  have qd8_8 : ∀ W', Below w4.heap.size w4 W' → World.cell? W' ⟨g8, 8, none⟩ = some (.int .u32 0) := fun W' h => Cells.at_ (Cells.below h d8) 8
  have qd8_9 : ∀ W', Below w4.heap.size w4 W' → World.cell? W' ⟨g8, 9, none⟩ = some (.int .u16 0) := fun W' h => Cells.at_ (Cells.below h d8) 9
  have qd8_10 : ∀ W', Below w4.heap.size w4 W' → World.cell? W' ⟨g8, 10, none⟩ = some (.int .i64 q.st) := fun W' h => Cells.at_ (Cells.below h d8) 10
  have qd8_11 : ∀ W', Below w4.heap.size w4 W' → World.cell? W' ⟨g8, 11, none⟩ = some (.int .i64 0) := fun W' h => Cells.at_ (Cells.below h d8) 11
  have qd8_12 : ∀ W', Below w4.heap.size w4 W' → World.cell? W' ⟨g8, 12, none⟩ = some (.slice none 0 0) := fun W' h => Cells.at_ (Cells.below h d8) 12
  go_upto_region 5 with fail
  have hg8 := HG8.out
  have r8 : Cells (((((w4.setCell ⟨g8, 5, none⟩ (.int .u8 q.x.p)).setCell ⟨g8, 6, none⟩ (.int .u32 q.di)).setCell ⟨g8, 7, none⟩ (.int .u16 q.dp)).setCell ⟨g8, 8, none⟩ (.int .u32 q.x.si)).setCell ⟨g8, 9, none⟩ (.int .u16 q.x.sp)) g8 #[.int .u8 q.x.p, .int .u32 q.x.si, .int .u16 q.x.sp, .int .u32 q.x.di, .int .u16 q.x.dp, .int .u8 q.x.p, .int .u32 q.di, .int .u16 q.dp, .int .u32 q.x.si, .int .u16 q.x.sp, .int .i64 q.st, .int .i64 0, .slice none 0 0] 51 := Cells.like (Cells.set_ (Cells.set_ (Cells.set_ (Cells.set_ (Cells.set_ D8.out 5 (.int .u8 q.x.p)) 6 (.int .u32 q.di)) 7 (.int .u16 q.dp)) 8 (.int .u32 q.x.si)) 9 (.int .u16 q.x.sp)) (by simp)
  have o8 : Only (fun j => j = g8) w4 (((((w4.setCell ⟨g8, 5, none⟩ (.int .u8 q.x.p)).setCell ⟨g8, 6, none⟩ (.int .u32 q.di)).setCell ⟨g8, 7, none⟩ (.int .u16 q.dp)).setCell ⟨g8, 8, none⟩ (.int .u32 q.x.si)).setCell ⟨g8, 9, none⟩ (.int .u16 q.x.sp)) := by repeat' (first | with_reducible exact Only.refl _ _ | with_reducible refine Only.setAt ?_ _ _ (Or.inl rfl))
  replace D0 := hide (Cells.only D0.out o8 (by omega)); replace D1 := hide (Cells.only D1.out o8 (by omega)); replace L0 := hide (L0.out.trans (o8.below (fun j e => by omega) L0.out.size))
  have GR0 := hide (Grow.start (K := dholdK) (f := fun v => #[.int .u8 q.x.p, .int .u32 q.x.si, .int .u16 q.x.sp, .int .u32 q.x.di, .int .u16 q.x.dp, .int .u8 q.x.p, .int .u32 q.di, .int .u16 q.dp, .int .u32 q.x.si, .int .u16 q.x.sp, .int .i64 q.st, .int .i64 0, v]) (show Cells (((((w4.setCell ⟨g8, 5, none⟩ (.int .u8 q.x.p)).setCell ⟨g8, 6, none⟩ (.int .u32 q.di)).setCell ⟨g8, 7, none⟩ (.int .u16 q.dp)).setCell ⟨g8, 8, none⟩ (.int .u32 q.x.si)).setCell ⟨g8, 9, none⟩ (.int .u16 q.x.sp)) g8 #[.int .u8 q.x.p, .int .u32 q.x.si, .int .u16 q.x.sp, .int .u32 q.x.di, .int .u16 q.x.dp, .int .u8 q.x.p, .int .u32 q.di, .int .u16 q.dp, .int .u32 q.x.si, .int .u16 q.x.sp, .int .i64 q.st, .int .i64 0, .slice none 0 0] 51 from r8))
  clear d0 d8 bb fz qd0_0 qd0_1 qd0_2 qd0_3 qd0_4 qd0_5 qd0_6 qd0_7 qd0_8 qd0_9 qd8_0 qd8_1 qd8_2 qd8_3 qd8_4 qd8_5 qd8_6 qd8_7 qd8_8 qd8_9 qd8_10 qd8_11 qd8_12 r8 o8 D8 hg8
  generalize (((((w4.setCell ⟨g8, 5, none⟩ (.int .u8 q.x.p)).setCell ⟨g8, 6, none⟩ (.int .u32 q.di)).setCell ⟨g8, 7, none⟩ (.int .u16 q.dp)).setCell ⟨g8, 8, none⟩ (.int .u32 q.x.si)).setCell ⟨g8, 9, none⟩ (.int .u16 q.x.sp)) = wq at *
  go_wp2_with fail
  go_loopg [9] n (fun gg s9 wr => ∃ kk : Nat, kk ≤ n ∧ n - kk ≤ gg ∧ s9 = .int .i64 kk ∧ Aside (∃ V, Grow dholdK wq g8 (fun v => #[.int .u8 q.x.p, .int .u32 q.x.si, .int .u16 q.x.sp, .int .u32 q.x.di, .int .u16 q.x.dp, .int .u8 q.x.p, .int .u32 q.di, .int .u16 q.dp, .int .u32 q.x.si, .int .u16 q.x.sp, .int .i64 q.st, .int .i64 0, v]) 51 (holdsL (q.ws.take kk) (os.take kk)) V wr) ∧ Aside (fitsL (q.ws.take kk) (os.take kk) = true))
  case atStart => exact ⟨0, Nat.zero_le _, by omega, rfl, (show Aside _ from ⟨_, GR0.out⟩), (show Aside _ from rfl)⟩
  case round =>
    clear GR0
    obtain ⟨kk, hkk, hg, rfl, GG, FT⟩ := hrel
    obtain ⟨V, gr⟩ := GG.out
    clear GG
    have hg8 := HG8.out
    have k0 : Cells wr w.heap.size #[.int .u8 q.x.p, .int .u32 q.x.si, .int .u16 q.x.sp, .int .u32 q.x.di, .int .u16 q.x.dp, .int .u32 q.di, .int .u16 q.dp, .bool false, .int .i64 q.st, .slice A n c] 36 := (gr.b.block w.heap.size (by omega)).trans D0.out
    have k1 : Cells wr (w.heap.size + 1) #[.int .u8 0, .int .u32 0, .int .u16 0, .int .u32 0, .int .u16 0, .int .u8 0, .int .u32 0, .int .u16 0, .int .u32 0, .int .u16 0, .int .i64 0, .int .i64 0, .slice none 0 0] 51 := (gr.b.block (w.heap.size + 1) (by omega)).trans D1.out
    have lw : Below w.heap.size w wr := L0.out.trans (gr.b.mono (by omega))
    have kg := gr.c
    by_cases hlt : kk < n
    · have hltz : (kk : Int) < (n : Int) := by omega
      have hl : kk < q.ws.length := by have := HN.out; omega
      have hlo : kk < os.length := by have := HNO.out; omega
      obtain ⟨F, hF⟩ : ∃ F : Nat → Prop, F = fun j => V.ownBlock = some j := ⟨_, rfl⟩
      have hFg : ∀ j, F j → g8 < j := fun j e => gr.up j (by rw [hF] at e; exact e)
      obtain ⟨g, o, hAe, hg0, hrow0⟩ := HA.out.at_ hl
      obtain ⟨gp, op, hOe, hgp0, hrowp0⟩ := HO.out.at_ hlo
      obtain ⟨r, hr⟩ : ∃ r, r = q.ws[kk] := ⟨_, rfl⟩
      obtain ⟨t, ht⟩ : ∃ t, t = os[kk] := ⟨_, rfl⟩
      rw [← hr] at hrow0
      rw [← ht] at hrowp0
      have HR := hide hr; have HTT := hide ht
      clear hr ht
      subst hAe hOe
      have HB := hide (show g < w.heap.size ∧ ¬ F g ∧ gp < w.heap.size ∧ ¬ F gp from ⟨hg0, fun e => by have := hFg g e; omega, hgp0, fun e => by have := hFg gp e; omega⟩)
      have HRW0 := hide hrow0; have HRP0 := hide hrowp0; have HFG := hide hFg
      have z0 : ∀ W', Below wr.heap.size wr W' → World.cell? W' ⟨g, o + kk * 8, none⟩ = some (.bool r.fx) := fun W' hW => hrow0 0 _ rfl W' (bstep lw hW)
      have z1 : ∀ W', Below wr.heap.size wr W' → World.cell? W' ⟨g, o + kk * 8 + 1, none⟩ = some (.int .u32 r.ii) := fun W' hW => hrow0 1 _ rfl W' (bstep lw hW)
      have z2 : ∀ W', Below wr.heap.size wr W' → World.cell? W' ⟨g, o + kk * 8 + 2, none⟩ = some (.int .u16 r.ip) := fun W' hW => hrow0 2 _ rfl W' (bstep lw hW)
      have z3 : ∀ W', Below wr.heap.size wr W' → World.cell? W' ⟨g, o + kk * 8 + 3, none⟩ = some (.int .u32 r.oi) := fun W' hW => hrow0 3 _ rfl W' (bstep lw hW)
      have z4 : ∀ W', Below wr.heap.size wr W' → World.cell? W' ⟨g, o + kk * 8 + 4, none⟩ = some (.int .u16 r.op) := fun W' hW => hrow0 4 _ rfl W' (bstep lw hW)
      have z5 : ∀ W', Below wr.heap.size wr W' → World.cell? W' ⟨g, o + kk * 8 + 5, none⟩ = some (.int .u32 r.a) := fun W' hW => hrow0 5 _ rfl W' (bstep lw hW)
      have z6 : ∀ W', Below wr.heap.size wr W' → World.cell? W' ⟨g, o + kk * 8 + 6, none⟩ = some (.int .u16 r.f) := fun W' hW => hrow0 6 _ rfl W' (bstep lw hW)
      have z7 : ∀ W', Below wr.heap.size wr W' → World.cell? W' ⟨g, o + kk * 8 + 7, none⟩ = some (.int .u16 r.t) := fun W' hW => hrow0 7 _ rfl W' (bstep lw hW)
      have p0 : ∀ W', Below wr.heap.size wr W' → World.cell? W' ⟨gp, op + kk * 2, none⟩ = some (.int .u32 t.a) := fun W' hW => hrowp0 0 _ rfl W' (bstep lw hW)
      have p1 : ∀ W', Below wr.heap.size wr W' → World.cell? W' ⟨gp, op + kk * 2 + 1, none⟩ = some (.int .u16 t.p) := fun W' hW => hrowp0 1 _ rfl W' (bstep lw hW)
      have qk0_9 : ∀ W', Below wr.heap.size wr W' → World.cell? W' ⟨w.heap.size, 9, none⟩ = some (.slice (some ⟨g, o, none⟩) n c) := fun W' h => Cells.at_ (Cells.below h k0) 9
      have bb : Below wr.heap.size wr wr := Below.refl _ _
      have GR := hide gr; have LW0 := hide lw; have HFE := hide hF; have K0 := hide k0; have K1 := hide k1
      have hkw : IntKind.i64.wrap ((kk : Int) + 1) = ((kk + 1 : Nat) : Int) := by rw [IntWalk.i64_in _ (by omega)]; omega
      have HLN := hide (show (holdsL (q.ws.take kk) (os.take kk) ++ [holdOf r t]).length = kk + 1 by rw [List.length_append, holdsL_len _ _ (by simp; omega), List.length_take, List.length_cons, List.length_nil]; omega)
      have hdk : decide ((kk : Int) < 0) = false := by rw [decide_eq_false_iff_not]; omega
      have cf := fun W => d_Fits W r t.a t.p
      obtain ⟨fv, hfv⟩ : ∃ fv, fitsV r t.a t.p = fv := ⟨_, rfl⟩
      rw [hfv] at cf
      have CF := hide cf; have HFV := hide hfv
      clear cf hfv gr lw hF hrow0 hrowp0 k0 k1 kg hFg hg0 hgp0
      go_upto_region 8 with fail
      have s8 : Below wr.heap.size wr wr.drew := Below.drew bb
      cases fv
      · skip
        focus
          refine wp_region_J [] (fun W => Below wr.heap.size wr W) (by kernel_rfl) (s8) (fun hS0 => ?_)
          obtain ⟨hG, hsel⟩ := okOps (md := .any) (ops := #[{ dst := some 46 , op := Go.Op.fieldAddr 36 ( Go.Operand.tmp 3 ) 4 , type := 0 , pos := "ref.go:112" , after := #[ ] , guard := none }, { dst := some 47 , op := Go.Op.load 34 ( Go.Operand.tmp 46 ) , type := 34 , pos := "ref.go:112" , after := #[ { on := 0 , ground := Go.Ground.data } ] , guard := none }, { dst := some 48 , op := Go.Op.move ( Go.Operand.tmp 9 ) , type := 3 , pos := "ref.go:112" , after := #[ ] , guard := none }, { dst := some 49 , op := Go.Op.indexAddr 34 ( Go.Operand.tmp 47 ) ( Go.Operand.tmp 48 ) , type := 0 , pos := "ref.go:112" , after := #[ { on := 1 , ground := Go.Ground.data } , { on := 2 , ground := Go.Ground.data } ] , guard := none }, { dst := some 50 , op := Go.Op.load 42 ( Go.Operand.tmp 49 ) , type := 42 , pos := "ref.go:112" , after := #[ { on := 3 , ground := Go.Ground.data } ] , guard := none }, { dst := some 51 , op := Go.Op.move ( Go.Operand.tmp 1 ) , type := 32 , pos := "ref.go:112" , after := #[ ] , guard := none }, { dst := some 52 , op := Go.Op.move ( Go.Operand.tmp 9 ) , type := 3 , pos := "ref.go:112" , after := #[ ] , guard := none }, { dst := some 53 , op := Go.Op.indexAddr 32 ( Go.Operand.tmp 51 ) ( Go.Operand.tmp 52 ) , type := 0 , pos := "ref.go:112" , after := #[ { on := 5 , ground := Go.Ground.data } , { on := 6 , ground := Go.Ground.data } ] , guard := none }, { dst := some 54 , op := Go.Op.load 26 ( Go.Operand.tmp 53 ) , type := 26 , pos := "ref.go:112" , after := #[ { on := 7 , ground := Go.Ground.data } ] , guard := none }, { dst := some 55 , op := Go.Op.call { callee := Go.Callee.value ( Go.Operand.func 7 ) , args := #[ Go.Operand.tmp 50 , Go.Operand.tmp 54 ] , argTypes := #[ 42 , 26 ] } , type := 4 , pos := "ref.go:112" , after := #[ { on := 4 , ground := Go.Ground.data } , { on := 8 , ground := Go.Ground.data } ] , guard := none }, { dst := some 56 , op := Go.Op.unOp Go.UnOp.not 4 ( Go.Operand.tmp 55 ) , type := 4 , pos := "ref.go:112" , after := #[ { on := 9 , ground := Go.Ground.data } ] , guard := none }]) (by kernel_rfl)
          refine wpAnyJ_takeG (i := 0) (oi := { dst := some 46 , op := Go.Op.fieldAddr 36 ( Go.Operand.tmp 3 ) 4 , type := 0 , pos := "ref.go:112" , after := #[ ] , guard := none }) (v := ?v0_1) hG hsel (by kernel_rfl) (by kernel_rfl) (by kernel_rfl) (by kernel_rfl) (fun _ _ _ h => h) (Or.inl (And.intro (by kernel_rfl) ?q0_1)) hS0 ?r0_1
          case q0_1 => intro w hx; refine run_env [3] [?a0_1_3] (by kernel_rfl) (by kernel_rfl) (⟨?e0_1_3, trivial⟩) ?h0_1; (case e0_1_3 => ((conv => lhs; whnf); (try exact rfl))); (case h0_1 => ((try dsimp only); (try simp only [envL, lookV, if_true, if_false]); (try go_simp); (try with_reducible rfl)))
          (try simp only [Act.put, List.setIfInBounds_toArray, List.set_cons_zero, List.set_cons_succ, List.getElem_toArray, List.getElem_cons_succ, List.getElem_cons_zero])
          refine wpAnyJ_takeG (i := 1) (oi := { dst := some 47 , op := Go.Op.load 34 ( Go.Operand.tmp 46 ) , type := 34 , pos := "ref.go:112" , after := #[ { on := 0 , ground := Go.Ground.data } ] , guard := none }) (v := ?v1_2) hG hsel (by kernel_rfl) (by kernel_rfl) (by kernel_rfl) (by kernel_rfl) (fun _ _ _ h => h) (Or.inl (And.intro (by kernel_rfl) ?q1_2)) hS0 ?r1_2
          case q1_2 => intro w hx; refine run_env [46] [?a1_2_46] (by kernel_rfl) (by kernel_rfl) (⟨?e1_2_46, trivial⟩) ?h1_2; (case e1_2_46 => ((conv => lhs; whnf); (try exact rfl))); (case h1_2 => ((try dsimp only); (try simp only [envL, lookV, if_true, if_false]); (try go_simp); (try with_reducible rfl)))
          (try simp only [Act.put, List.setIfInBounds_toArray, List.set_cons_zero, List.set_cons_succ, List.getElem_toArray, List.getElem_cons_succ, List.getElem_cons_zero])
          refine wpAnyJ_takeG (i := 2) (oi := { dst := some 48 , op := Go.Op.move ( Go.Operand.tmp 9 ) , type := 3 , pos := "ref.go:112" , after := #[ ] , guard := none }) (v := ?v2_3) hG hsel (by kernel_rfl) (by kernel_rfl) (by kernel_rfl) (by kernel_rfl) (fun _ _ _ h => h) (Or.inl (And.intro (by kernel_rfl) ?q2_3)) hS0 ?r2_3
          case q2_3 => intro w hx; refine run_env [9] [?a2_3_9] (by kernel_rfl) (by kernel_rfl) (⟨?e2_3_9, trivial⟩) ?h2_3; (case e2_3_9 => ((conv => lhs; whnf); (try exact rfl))); (case h2_3 => ((try dsimp only); (try simp only [envL, lookV, if_true, if_false]); (try go_simp); (try with_reducible rfl)))
          (try simp only [Act.put, List.setIfInBounds_toArray, List.set_cons_zero, List.set_cons_succ, List.getElem_toArray, List.getElem_cons_succ, List.getElem_cons_zero])
          refine wpAnyJ_takeG (i := 3) (oi := { dst := some 49 , op := Go.Op.indexAddr 34 ( Go.Operand.tmp 47 ) ( Go.Operand.tmp 48 ) , type := 0 , pos := "ref.go:112" , after := #[ { on := 1 , ground := Go.Ground.data } , { on := 2 , ground := Go.Ground.data } ] , guard := none }) (v := ?v3_4) hG hsel (by kernel_rfl) (by kernel_rfl) (by kernel_rfl) (by kernel_rfl) (fun _ _ _ h => h) (Or.inl (And.intro (by kernel_rfl) ?q3_4)) hS0 ?r3_4
          case q3_4 => intro w hx; refine run_env [47, 48] [?a3_4_47, ?a3_4_48] (by kernel_rfl) (by kernel_rfl) (⟨?e3_4_47, ?e3_4_48, trivial⟩) ?h3_4; (case e3_4_47 => ((conv => lhs; whnf); (try exact rfl))); (case e3_4_48 => ((conv => lhs; whnf); (try exact rfl))); (case h3_4 => ((try dsimp only); (try simp only [envL, lookV, if_true, if_false]); (try go_simp); (try with_reducible rfl)))
          (try simp only [Act.put, List.setIfInBounds_toArray, List.set_cons_zero, List.set_cons_succ, List.getElem_toArray, List.getElem_cons_succ, List.getElem_cons_zero])
          refine wpAnyJ_takeG (i := 4) (oi := { dst := some 50 , op := Go.Op.load 42 ( Go.Operand.tmp 49 ) , type := 42 , pos := "ref.go:112" , after := #[ { on := 3 , ground := Go.Ground.data } ] , guard := none }) (v := ?v4_5) hG hsel (by kernel_rfl) (by kernel_rfl) (by kernel_rfl) (by kernel_rfl) (fun _ _ _ h => h) (Or.inl (And.intro (by kernel_rfl) ?q4_5)) hS0 ?r4_5
          case q4_5 => intro w hx; refine run_env [49] [?a4_5_49] (by kernel_rfl) (by kernel_rfl) (⟨?e4_5_49, trivial⟩) ?h4_5; (case e4_5_49 => ((conv => lhs; whnf); (try exact rfl))); (case h4_5 => ((try dsimp only); (try simp only [envL, lookV, if_true, if_false]); (try go_simp); (try with_reducible rfl)))
          (try simp only [Act.put, List.setIfInBounds_toArray, List.set_cons_zero, List.set_cons_succ, List.getElem_toArray, List.getElem_cons_succ, List.getElem_cons_zero])
          refine wpAnyJ_takeG (i := 5) (oi := { dst := some 51 , op := Go.Op.move ( Go.Operand.tmp 1 ) , type := 32 , pos := "ref.go:112" , after := #[ ] , guard := none }) (v := ?v5_6) hG hsel (by kernel_rfl) (by kernel_rfl) (by kernel_rfl) (by kernel_rfl) (fun _ _ _ h => h) (Or.inl (And.intro (by kernel_rfl) ?q5_6)) hS0 ?r5_6
          case q5_6 => intro w hx; refine run_env [1] [?a5_6_1] (by kernel_rfl) (by kernel_rfl) (⟨?e5_6_1, trivial⟩) ?h5_6; (case e5_6_1 => ((conv => lhs; whnf); (try exact rfl))); (case h5_6 => ((try dsimp only); (try simp only [envL, lookV, if_true, if_false]); (try go_simp); (try with_reducible rfl)))
          (try simp only [Act.put, List.setIfInBounds_toArray, List.set_cons_zero, List.set_cons_succ, List.getElem_toArray, List.getElem_cons_succ, List.getElem_cons_zero])
          refine wpAnyJ_takeG (i := 6) (oi := { dst := some 52 , op := Go.Op.move ( Go.Operand.tmp 9 ) , type := 3 , pos := "ref.go:112" , after := #[ ] , guard := none }) (v := ?v6_7) hG hsel (by kernel_rfl) (by kernel_rfl) (by kernel_rfl) (by kernel_rfl) (fun _ _ _ h => h) (Or.inl (And.intro (by kernel_rfl) ?q6_7)) hS0 ?r6_7
          case q6_7 => intro w hx; refine run_env [9] [?a6_7_9] (by kernel_rfl) (by kernel_rfl) (⟨?e6_7_9, trivial⟩) ?h6_7; (case e6_7_9 => ((conv => lhs; whnf); (try exact rfl))); (case h6_7 => ((try dsimp only); (try simp only [envL, lookV, if_true, if_false]); (try go_simp); (try with_reducible rfl)))
          (try simp only [Act.put, List.setIfInBounds_toArray, List.set_cons_zero, List.set_cons_succ, List.getElem_toArray, List.getElem_cons_succ, List.getElem_cons_zero])
          refine wpAnyJ_takeG (i := 7) (oi := { dst := some 53 , op := Go.Op.indexAddr 32 ( Go.Operand.tmp 51 ) ( Go.Operand.tmp 52 ) , type := 0 , pos := "ref.go:112" , after := #[ { on := 5 , ground := Go.Ground.data } , { on := 6 , ground := Go.Ground.data } ] , guard := none }) (v := ?v7_8) hG hsel (by kernel_rfl) (by kernel_rfl) (by kernel_rfl) (by kernel_rfl) (fun _ _ _ h => h) (Or.inl (And.intro (by kernel_rfl) ?q7_8)) hS0 ?r7_8
          case q7_8 => intro w hx; refine run_env [51, 52] [?a7_8_51, ?a7_8_52] (by kernel_rfl) (by kernel_rfl) (⟨?e7_8_51, ?e7_8_52, trivial⟩) ?h7_8; (case e7_8_51 => ((conv => lhs; whnf); (try exact rfl))); (case e7_8_52 => ((conv => lhs; whnf); (try exact rfl))); (case h7_8 => ((try dsimp only); (try simp only [envL, lookV, if_true, if_false]); (try go_simp); (try with_reducible rfl)))
          (try simp only [Act.put, List.setIfInBounds_toArray, List.set_cons_zero, List.set_cons_succ, List.getElem_toArray, List.getElem_cons_succ, List.getElem_cons_zero])
          refine wpAnyJ_takeG (i := 8) (oi := { dst := some 54 , op := Go.Op.load 26 ( Go.Operand.tmp 53 ) , type := 26 , pos := "ref.go:112" , after := #[ { on := 7 , ground := Go.Ground.data } ] , guard := none }) (v := ?v8_9) hG hsel (by kernel_rfl) (by kernel_rfl) (by kernel_rfl) (by kernel_rfl) (fun _ _ _ h => h) (Or.inl (And.intro (by kernel_rfl) ?q8_9)) hS0 ?r8_9
          case q8_9 => intro w hx; refine run_env [53] [?a8_9_53] (by kernel_rfl) (by kernel_rfl) (⟨?e8_9_53, trivial⟩) ?h8_9; (case e8_9_53 => ((conv => lhs; whnf); (try exact rfl))); (case h8_9 => ((try dsimp only); (try simp only [envL, lookV, if_true, if_false]); (try go_simp); (try with_reducible rfl)))
          (try simp only [Act.put, List.setIfInBounds_toArray, List.set_cons_zero, List.set_cons_succ, List.getElem_toArray, List.getElem_cons_succ, List.getElem_cons_zero])
          refine wpAnyJ_ready (rs := [9]) (by kernel_rfl) (by simp) ?_
          refine (AllReadyJ.cons rfl (fun K hK => ?_) AllReadyJ.nil)
          rw [if_pos (by kernel_rfl)]
          (try simp only [List.getElem_toArray, List.getElem_cons_succ, List.getElem_cons_zero])
          (focus go_simp)
          (focus ((with_reducible refine (CF.out _).mono ?_); rintro e wq9 ⟨rfl, bq9⟩; have sq := bstep hS0 bq9))
          (focus (try go_wp2_with fail))
          refine hK.out _ _ ?hs (fun hS0 => ?_)
          case hs => (first | with_reducible exact hS0 | with_reducible exact sq)
          clear hK K
          (try simp only [Act.put, List.setIfInBounds_toArray, List.set_cons_zero, List.set_cons_succ, List.getElem_toArray, List.getElem_cons_succ, List.getElem_cons_zero])
          refine wpAnyJ_takeG (i := 10) (oi := { dst := some 56 , op := Go.Op.unOp Go.UnOp.not 4 ( Go.Operand.tmp 55 ) , type := 4 , pos := "ref.go:112" , after := #[ { on := 9 , ground := Go.Ground.data } ] , guard := none }) (v := ?v10_10) hG hsel (by kernel_rfl) (by kernel_rfl) (by kernel_rfl) (by kernel_rfl) (fun _ _ _ h => h) (Or.inl (And.intro (by kernel_rfl) ?q10_10)) hS0 ?r10_10
          case q10_10 => intro w hx; refine run_env [55] [?a10_10_55] (by kernel_rfl) (by kernel_rfl) (⟨?e10_10_55, trivial⟩) ?h10_10; (case e10_10_55 => ((conv => lhs; whnf); (try exact rfl))); (case h10_10 => ((try dsimp only); (try simp only [envL, lookV, if_true, if_false]); (try go_simp); (try with_reducible rfl)))
          (try simp only [Act.put, List.setIfInBounds_toArray, List.set_cons_zero, List.set_cons_succ, List.getElem_toArray, List.getElem_cons_succ, List.getElem_cons_zero])
          refine wpAnyJ_done (by kernel_rfl) ?_ _
        have HZ := hide (Cells.below hS0 K1.out); have LW := hide (bstep LW0.out hS0)
        clear s8 bb hS0 sq bq9 p0 p1 qk0_9 z0 z1 z2 z3 z4 z5 z6 z7
        have er : RV = (zeroE, 2) := by rw [HRV.out, if_pos (by rw [fitsL_no hl hlo (by rw [← HR.out, ← HTT.out]; exact HFV.out)])]
        clear HRV
        subst er
        go_upto_region 9 with fail
        refine wp_region_lit ?_
        refine wpList_plain rfl fun K hK => ?_; go_simp; refine hK _ _ ?_; clear hK K
        refine wpList_store_all rfl 51 (.tmp 6) (.tmp 57) rfl HZ.out (by rfl) (by rfl) (by kernel_rfl) rfl (by simp [Value.oneCell']) ?_
        intro W5 r5 o5 z5
        go_wp2_with fail
        (try simp only [Exit.inBlock, Exit.then])
        refine bodyPost_ret (res_cell_tmp Tryd.results9 r5 (by rfl) (by rfl) _ Tryd.underlying51 rfl (by kernel_rfl)) rfl ?_
        exact ⟨.slice none 0 0, rfl, RowK.Own.nil _, (fun g e => by cases e), LW.out.trans (o5.below (fun j e => by omega) LW.out.size)⟩
      · skip
        focus
          refine wp_region_J [] (fun W => Below wr.heap.size wr W) (by kernel_rfl) (s8) (fun hS0 => ?_)
          obtain ⟨hG, hsel⟩ := okOps (md := .any) (ops := #[{ dst := some 46 , op := Go.Op.fieldAddr 36 ( Go.Operand.tmp 3 ) 4 , type := 0 , pos := "ref.go:112" , after := #[ ] , guard := none }, { dst := some 47 , op := Go.Op.load 34 ( Go.Operand.tmp 46 ) , type := 34 , pos := "ref.go:112" , after := #[ { on := 0 , ground := Go.Ground.data } ] , guard := none }, { dst := some 48 , op := Go.Op.move ( Go.Operand.tmp 9 ) , type := 3 , pos := "ref.go:112" , after := #[ ] , guard := none }, { dst := some 49 , op := Go.Op.indexAddr 34 ( Go.Operand.tmp 47 ) ( Go.Operand.tmp 48 ) , type := 0 , pos := "ref.go:112" , after := #[ { on := 1 , ground := Go.Ground.data } , { on := 2 , ground := Go.Ground.data } ] , guard := none }, { dst := some 50 , op := Go.Op.load 42 ( Go.Operand.tmp 49 ) , type := 42 , pos := "ref.go:112" , after := #[ { on := 3 , ground := Go.Ground.data } ] , guard := none }, { dst := some 51 , op := Go.Op.move ( Go.Operand.tmp 1 ) , type := 32 , pos := "ref.go:112" , after := #[ ] , guard := none }, { dst := some 52 , op := Go.Op.move ( Go.Operand.tmp 9 ) , type := 3 , pos := "ref.go:112" , after := #[ ] , guard := none }, { dst := some 53 , op := Go.Op.indexAddr 32 ( Go.Operand.tmp 51 ) ( Go.Operand.tmp 52 ) , type := 0 , pos := "ref.go:112" , after := #[ { on := 5 , ground := Go.Ground.data } , { on := 6 , ground := Go.Ground.data } ] , guard := none }, { dst := some 54 , op := Go.Op.load 26 ( Go.Operand.tmp 53 ) , type := 26 , pos := "ref.go:112" , after := #[ { on := 7 , ground := Go.Ground.data } ] , guard := none }, { dst := some 55 , op := Go.Op.call { callee := Go.Callee.value ( Go.Operand.func 7 ) , args := #[ Go.Operand.tmp 50 , Go.Operand.tmp 54 ] , argTypes := #[ 42 , 26 ] } , type := 4 , pos := "ref.go:112" , after := #[ { on := 4 , ground := Go.Ground.data } , { on := 8 , ground := Go.Ground.data } ] , guard := none }, { dst := some 56 , op := Go.Op.unOp Go.UnOp.not 4 ( Go.Operand.tmp 55 ) , type := 4 , pos := "ref.go:112" , after := #[ { on := 9 , ground := Go.Ground.data } ] , guard := none }]) (by kernel_rfl)
          refine wpAnyJ_takeG (i := 0) (oi := { dst := some 46 , op := Go.Op.fieldAddr 36 ( Go.Operand.tmp 3 ) 4 , type := 0 , pos := "ref.go:112" , after := #[ ] , guard := none }) (v := ?v0_11) hG hsel (by kernel_rfl) (by kernel_rfl) (by kernel_rfl) (by kernel_rfl) (fun _ _ _ h => h) (Or.inl (And.intro (by kernel_rfl) ?q0_11)) hS0 ?r0_11
          case q0_11 => intro w hx; refine run_env [3] [?a0_11_3] (by kernel_rfl) (by kernel_rfl) (⟨?e0_11_3, trivial⟩) ?h0_11; (case e0_11_3 => ((conv => lhs; whnf); (try exact rfl))); (case h0_11 => ((try dsimp only); (try simp only [envL, lookV, if_true, if_false]); (try go_simp); (try with_reducible rfl)))
          (try simp only [Act.put, List.setIfInBounds_toArray, List.set_cons_zero, List.set_cons_succ, List.getElem_toArray, List.getElem_cons_succ, List.getElem_cons_zero])
          refine wpAnyJ_takeG (i := 1) (oi := { dst := some 47 , op := Go.Op.load 34 ( Go.Operand.tmp 46 ) , type := 34 , pos := "ref.go:112" , after := #[ { on := 0 , ground := Go.Ground.data } ] , guard := none }) (v := ?v1_12) hG hsel (by kernel_rfl) (by kernel_rfl) (by kernel_rfl) (by kernel_rfl) (fun _ _ _ h => h) (Or.inl (And.intro (by kernel_rfl) ?q1_12)) hS0 ?r1_12
          case q1_12 => intro w hx; refine run_env [46] [?a1_12_46] (by kernel_rfl) (by kernel_rfl) (⟨?e1_12_46, trivial⟩) ?h1_12; (case e1_12_46 => ((conv => lhs; whnf); (try exact rfl))); (case h1_12 => ((try dsimp only); (try simp only [envL, lookV, if_true, if_false]); (try go_simp); (try with_reducible rfl)))
          (try simp only [Act.put, List.setIfInBounds_toArray, List.set_cons_zero, List.set_cons_succ, List.getElem_toArray, List.getElem_cons_succ, List.getElem_cons_zero])
          refine wpAnyJ_takeG (i := 2) (oi := { dst := some 48 , op := Go.Op.move ( Go.Operand.tmp 9 ) , type := 3 , pos := "ref.go:112" , after := #[ ] , guard := none }) (v := ?v2_13) hG hsel (by kernel_rfl) (by kernel_rfl) (by kernel_rfl) (by kernel_rfl) (fun _ _ _ h => h) (Or.inl (And.intro (by kernel_rfl) ?q2_13)) hS0 ?r2_13
          case q2_13 => intro w hx; refine run_env [9] [?a2_13_9] (by kernel_rfl) (by kernel_rfl) (⟨?e2_13_9, trivial⟩) ?h2_13; (case e2_13_9 => ((conv => lhs; whnf); (try exact rfl))); (case h2_13 => ((try dsimp only); (try simp only [envL, lookV, if_true, if_false]); (try go_simp); (try with_reducible rfl)))
          (try simp only [Act.put, List.setIfInBounds_toArray, List.set_cons_zero, List.set_cons_succ, List.getElem_toArray, List.getElem_cons_succ, List.getElem_cons_zero])
          refine wpAnyJ_takeG (i := 3) (oi := { dst := some 49 , op := Go.Op.indexAddr 34 ( Go.Operand.tmp 47 ) ( Go.Operand.tmp 48 ) , type := 0 , pos := "ref.go:112" , after := #[ { on := 1 , ground := Go.Ground.data } , { on := 2 , ground := Go.Ground.data } ] , guard := none }) (v := ?v3_14) hG hsel (by kernel_rfl) (by kernel_rfl) (by kernel_rfl) (by kernel_rfl) (fun _ _ _ h => h) (Or.inl (And.intro (by kernel_rfl) ?q3_14)) hS0 ?r3_14
          case q3_14 => intro w hx; refine run_env [47, 48] [?a3_14_47, ?a3_14_48] (by kernel_rfl) (by kernel_rfl) (⟨?e3_14_47, ?e3_14_48, trivial⟩) ?h3_14; (case e3_14_47 => ((conv => lhs; whnf); (try exact rfl))); (case e3_14_48 => ((conv => lhs; whnf); (try exact rfl))); (case h3_14 => ((try dsimp only); (try simp only [envL, lookV, if_true, if_false]); (try go_simp); (try with_reducible rfl)))
          (try simp only [Act.put, List.setIfInBounds_toArray, List.set_cons_zero, List.set_cons_succ, List.getElem_toArray, List.getElem_cons_succ, List.getElem_cons_zero])
          refine wpAnyJ_takeG (i := 4) (oi := { dst := some 50 , op := Go.Op.load 42 ( Go.Operand.tmp 49 ) , type := 42 , pos := "ref.go:112" , after := #[ { on := 3 , ground := Go.Ground.data } ] , guard := none }) (v := ?v4_15) hG hsel (by kernel_rfl) (by kernel_rfl) (by kernel_rfl) (by kernel_rfl) (fun _ _ _ h => h) (Or.inl (And.intro (by kernel_rfl) ?q4_15)) hS0 ?r4_15
          case q4_15 => intro w hx; refine run_env [49] [?a4_15_49] (by kernel_rfl) (by kernel_rfl) (⟨?e4_15_49, trivial⟩) ?h4_15; (case e4_15_49 => ((conv => lhs; whnf); (try exact rfl))); (case h4_15 => ((try dsimp only); (try simp only [envL, lookV, if_true, if_false]); (try go_simp); (try with_reducible rfl)))
          (try simp only [Act.put, List.setIfInBounds_toArray, List.set_cons_zero, List.set_cons_succ, List.getElem_toArray, List.getElem_cons_succ, List.getElem_cons_zero])
          refine wpAnyJ_takeG (i := 5) (oi := { dst := some 51 , op := Go.Op.move ( Go.Operand.tmp 1 ) , type := 32 , pos := "ref.go:112" , after := #[ ] , guard := none }) (v := ?v5_16) hG hsel (by kernel_rfl) (by kernel_rfl) (by kernel_rfl) (by kernel_rfl) (fun _ _ _ h => h) (Or.inl (And.intro (by kernel_rfl) ?q5_16)) hS0 ?r5_16
          case q5_16 => intro w hx; refine run_env [1] [?a5_16_1] (by kernel_rfl) (by kernel_rfl) (⟨?e5_16_1, trivial⟩) ?h5_16; (case e5_16_1 => ((conv => lhs; whnf); (try exact rfl))); (case h5_16 => ((try dsimp only); (try simp only [envL, lookV, if_true, if_false]); (try go_simp); (try with_reducible rfl)))
          (try simp only [Act.put, List.setIfInBounds_toArray, List.set_cons_zero, List.set_cons_succ, List.getElem_toArray, List.getElem_cons_succ, List.getElem_cons_zero])
          refine wpAnyJ_takeG (i := 6) (oi := { dst := some 52 , op := Go.Op.move ( Go.Operand.tmp 9 ) , type := 3 , pos := "ref.go:112" , after := #[ ] , guard := none }) (v := ?v6_17) hG hsel (by kernel_rfl) (by kernel_rfl) (by kernel_rfl) (by kernel_rfl) (fun _ _ _ h => h) (Or.inl (And.intro (by kernel_rfl) ?q6_17)) hS0 ?r6_17
          case q6_17 => intro w hx; refine run_env [9] [?a6_17_9] (by kernel_rfl) (by kernel_rfl) (⟨?e6_17_9, trivial⟩) ?h6_17; (case e6_17_9 => ((conv => lhs; whnf); (try exact rfl))); (case h6_17 => ((try dsimp only); (try simp only [envL, lookV, if_true, if_false]); (try go_simp); (try with_reducible rfl)))
          (try simp only [Act.put, List.setIfInBounds_toArray, List.set_cons_zero, List.set_cons_succ, List.getElem_toArray, List.getElem_cons_succ, List.getElem_cons_zero])
          refine wpAnyJ_takeG (i := 7) (oi := { dst := some 53 , op := Go.Op.indexAddr 32 ( Go.Operand.tmp 51 ) ( Go.Operand.tmp 52 ) , type := 0 , pos := "ref.go:112" , after := #[ { on := 5 , ground := Go.Ground.data } , { on := 6 , ground := Go.Ground.data } ] , guard := none }) (v := ?v7_18) hG hsel (by kernel_rfl) (by kernel_rfl) (by kernel_rfl) (by kernel_rfl) (fun _ _ _ h => h) (Or.inl (And.intro (by kernel_rfl) ?q7_18)) hS0 ?r7_18
          case q7_18 => intro w hx; refine run_env [51, 52] [?a7_18_51, ?a7_18_52] (by kernel_rfl) (by kernel_rfl) (⟨?e7_18_51, ?e7_18_52, trivial⟩) ?h7_18; (case e7_18_51 => ((conv => lhs; whnf); (try exact rfl))); (case e7_18_52 => ((conv => lhs; whnf); (try exact rfl))); (case h7_18 => ((try dsimp only); (try simp only [envL, lookV, if_true, if_false]); (try go_simp); (try with_reducible rfl)))
          (try simp only [Act.put, List.setIfInBounds_toArray, List.set_cons_zero, List.set_cons_succ, List.getElem_toArray, List.getElem_cons_succ, List.getElem_cons_zero])
          refine wpAnyJ_takeG (i := 8) (oi := { dst := some 54 , op := Go.Op.load 26 ( Go.Operand.tmp 53 ) , type := 26 , pos := "ref.go:112" , after := #[ { on := 7 , ground := Go.Ground.data } ] , guard := none }) (v := ?v8_19) hG hsel (by kernel_rfl) (by kernel_rfl) (by kernel_rfl) (by kernel_rfl) (fun _ _ _ h => h) (Or.inl (And.intro (by kernel_rfl) ?q8_19)) hS0 ?r8_19
          case q8_19 => intro w hx; refine run_env [53] [?a8_19_53] (by kernel_rfl) (by kernel_rfl) (⟨?e8_19_53, trivial⟩) ?h8_19; (case e8_19_53 => ((conv => lhs; whnf); (try exact rfl))); (case h8_19 => ((try dsimp only); (try simp only [envL, lookV, if_true, if_false]); (try go_simp); (try with_reducible rfl)))
          (try simp only [Act.put, List.setIfInBounds_toArray, List.set_cons_zero, List.set_cons_succ, List.getElem_toArray, List.getElem_cons_succ, List.getElem_cons_zero])
          refine wpAnyJ_ready (rs := [9]) (by kernel_rfl) (by simp) ?_
          refine (AllReadyJ.cons rfl (fun K hK => ?_) AllReadyJ.nil)
          rw [if_pos (by kernel_rfl)]
          (try simp only [List.getElem_toArray, List.getElem_cons_succ, List.getElem_cons_zero])
          (focus go_simp)
          (focus ((with_reducible refine (CF.out _).mono ?_); rintro e wq9 ⟨rfl, bq9⟩; have sq := bstep hS0 bq9))
          (focus (try go_wp2_with fail))
          refine hK.out _ _ ?hs (fun hS0 => ?_)
          case hs => (first | with_reducible exact hS0 | with_reducible exact sq)
          clear hK K
          (try simp only [Act.put, List.setIfInBounds_toArray, List.set_cons_zero, List.set_cons_succ, List.getElem_toArray, List.getElem_cons_succ, List.getElem_cons_zero])
          refine wpAnyJ_takeG (i := 10) (oi := { dst := some 56 , op := Go.Op.unOp Go.UnOp.not 4 ( Go.Operand.tmp 55 ) , type := 4 , pos := "ref.go:112" , after := #[ { on := 9 , ground := Go.Ground.data } ] , guard := none }) (v := ?v10_20) hG hsel (by kernel_rfl) (by kernel_rfl) (by kernel_rfl) (by kernel_rfl) (fun _ _ _ h => h) (Or.inl (And.intro (by kernel_rfl) ?q10_20)) hS0 ?r10_20
          case q10_20 => intro w hx; refine run_env [55] [?a10_20_55] (by kernel_rfl) (by kernel_rfl) (⟨?e10_20_55, trivial⟩) ?h10_20; (case e10_20_55 => ((conv => lhs; whnf); (try exact rfl))); (case h10_20 => ((try dsimp only); (try simp only [envL, lookV, if_true, if_false]); (try go_simp); (try with_reducible rfl)))
          (try simp only [Act.put, List.setIfInBounds_toArray, List.set_cons_zero, List.set_cons_succ, List.getElem_toArray, List.getElem_cons_succ, List.getElem_cons_zero])
          refine wpAnyJ_done (by kernel_rfl) ?_ _
        have FT2 : fitsL (q.ws.take (kk + 1)) (os.take (kk + 1)) = true := by rw [fitsL_snoc _ _ hl hlo, FT.out, ← HR.out, ← HTT.out, HFV.out]; rfl
        have FT3 := hide FT2
        have GX := hide (Grow.quieta GR.out hS0); have LX := hide (bstep LW0.out hS0); have K0X := hide (Cells.below hS0 K0.out)
        clear s8 bb sq bq9 p0 p1 qk0_9 z0 z1 z2 z3 z4 z5 z6 z7 FT2 GR LW0 K0 K1 CF HFV hS0
        have k0x := K0X.out
        have xs7 : wq9.cell? ⟨w.heap.size, 7, none⟩ = some (.bool false) := k0x.at_ 7
        clear k0x
        go_upto_region 10 with fail
        go_cut [63] from 58 to 62 (fun sc wc => sc = .bool false ∧ Aside (wc = wq9))
        case first =>
          rcases (show ((kk : Int) == 0) = true ∨ ((kk : Int) == 0) = false from by cases ((kk : Int) == 0) <;> simp) with e1 | e1
          all_goals
            go_wp2_with fail
            go_meet
            case rel => exact ⟨rfl, (show Aside _ from rfl)⟩
        case rest =>
        obtain ⟨rfl, hwc⟩ := hcut
        have hwd := hwc.out
        clear hwc
        subst hwd
        have GZ := GX; have LZ := LX; have K0Z := K0X
        clear xs7 GX LX K0X
        go_upto_region 12 with fail
        obtain ⟨wz, hwz⟩ : ∃ wz, wz = wc := ⟨_, rfl⟩
        rw [← hwz] at GZ LZ K0Z ⊢
        clear hwz
        have hFs : ∀ j, F j → j < wz.heap.size := fun j e => GZ.out.own.row (by rw [HFE.out] at e; exact e)
        have zg := GZ.out.c
        have t0 : ∀ W', Only F wz W' → World.cell? W' ⟨w.heap.size, 9, none⟩ = some (.slice (some ⟨g, o, none⟩) n c) := fun W' hW => (Cells.only K0Z.out hW (fun e => by have := HFG.out _ e; have := HG8.out; omega)).at_ 9
        have t1 : ∀ W', Only F wz W' → World.cell? W' ⟨g, o + kk * 8 + 1, none⟩ = some (.int .u32 r.ii) := fun W' hW => (World.cell?_of_block (hW.block g (Nat.lt_of_lt_of_le HB.out.1 LZ.out.size) HB.out.2.1)).trans (HRW0.out 1 _ rfl wz LZ.out)
        have t2 : ∀ W', Only F wz W' → World.cell? W' ⟨g, o + kk * 8 + 1 + 1, none⟩ = some (.int .u16 r.ip) := fun W' hW => (World.cell?_of_block (hW.block g (Nat.lt_of_lt_of_le HB.out.1 LZ.out.size) HB.out.2.1)).trans (HRW0.out 2 _ rfl wz LZ.out)
        have t3 : ∀ W', Only F wz W' → World.cell? W' ⟨gp, op + kk * 2, none⟩ = some (.int .u32 t.a) := fun W' hW => (World.cell?_of_block (hW.block gp (Nat.lt_of_lt_of_le HB.out.2.2.1 LZ.out.size) HB.out.2.2.2)).trans (HRP0.out 0 _ rfl wz LZ.out)
        have t4 : ∀ W', Only F wz W' → World.cell? W' ⟨gp, op + kk * 2 + 1, none⟩ = some (.int .u16 t.p) := fun W' hW => (World.cell?_of_block (hW.block gp (Nat.lt_of_lt_of_le HB.out.2.2.1 LZ.out.size) HB.out.2.2.2)).trans (HRP0.out 1 _ rfl wz LZ.out)
        have q8 : ∀ W', Only F wz W' → World.cell? W' ⟨g8, 12, none⟩ = some V := fun W' hW => (Cells.only zg hW (fun e => by have := HFG.out _ e; omega)).at_ 12
        have f8 : ∀ W', Only F wz W' → World.frozen? W' ⟨g8, 12, none⟩ = false := fun W' hW => (Cells.only zg hW (fun e => by have := HFG.out _ e; omega)).free 12
        have bb : Only F wz wz := Only.refl _ _
        clear hFs zg
        go_upto_region 12 with fail
        have s12 : Only F wz wz.drew := Only.drew bb
        focus
          refine wp_region_J [16] (fun W => Only F wz W) (by kernel_rfl) (s12) (fun hS0 => ?_)
          obtain ⟨hG, hsel⟩ := okOps (md := .any) (ops := #[{ dst := some 69 , op := Go.Op.fieldAddr 51 ( Go.Operand.tmp 8 ) 4 , type := 0 , pos := "ref.go:118" , after := #[ ] , guard := none }, { dst := some 70 , op := Go.Op.load 49 ( Go.Operand.tmp 69 ) , type := 49 , pos := "ref.go:118" , after := #[ { on := 0 , ground := Go.Ground.data } ] , guard := none }, { dst := some 71 , op := Go.Op.move ( Go.Operand.tmp 1 ) , type := 32 , pos := "ref.go:118" , after := #[ ] , guard := none }, { dst := some 72 , op := Go.Op.move ( Go.Operand.tmp 9 ) , type := 3 , pos := "ref.go:118" , after := #[ ] , guard := none }, { dst := some 73 , op := Go.Op.indexAddr 32 ( Go.Operand.tmp 71 ) ( Go.Operand.tmp 72 ) , type := 0 , pos := "ref.go:118" , after := #[ { on := 2 , ground := Go.Ground.data } , { on := 3 , ground := Go.Ground.data } ] , guard := none }, { dst := some 74 , op := Go.Op.load 26 ( Go.Operand.tmp 73 ) , type := 26 , pos := "ref.go:118" , after := #[ { on := 4 , ground := Go.Ground.data } ] , guard := none }, { dst := some 75 , op := Go.Op.fieldAddr 36 ( Go.Operand.tmp 3 ) 4 , type := 0 , pos := "ref.go:118" , after := #[ ] , guard := none }, { dst := some 76 , op := Go.Op.load 34 ( Go.Operand.tmp 75 ) , type := 34 , pos := "ref.go:118" , after := #[ { on := 6 , ground := Go.Ground.data } ] , guard := none }, { dst := some 77 , op := Go.Op.move ( Go.Operand.tmp 9 ) , type := 3 , pos := "ref.go:118" , after := #[ ] , guard := none }, { dst := some 78 , op := Go.Op.indexAddr 34 ( Go.Operand.tmp 76 ) ( Go.Operand.tmp 77 ) , type := 0 , pos := "ref.go:118" , after := #[ { on := 7 , ground := Go.Ground.data } , { on := 8 , ground := Go.Ground.data } ] , guard := none }, { dst := some 79 , op := Go.Op.fieldAddr 42 ( Go.Operand.tmp 78 ) 1 , type := 0 , pos := "ref.go:118" , after := #[ { on := 9 , ground := Go.Ground.data } ] , guard := none }, { dst := some 80 , op := Go.Op.load 26 ( Go.Operand.tmp 79 ) , type := 26 , pos := "ref.go:118" , after := #[ { on := 10 , ground := Go.Ground.data } ] , guard := none }, { dst := some 81 , op := Go.Op.build 69 #[ ( 0 , Go.Operand.tmp 74 ) , ( 1 , Go.Operand.tmp 80 ) ] , type := 69 , pos := "ref.go:118" , after := #[ { on := 5 , ground := Go.Ground.data } , { on := 11 , ground := Go.Ground.data } ] , guard := none }, { dst := some 82 , op := Go.Op.buildSlice 49 1 #[ ( 0 , Go.Operand.tmp 81 ) ] , type := 49 , pos := "ref.go:118" , after := #[ { on := 12 , ground := Go.Ground.data } ] , guard := none }, { dst := some 83 , op := Go.Op.call { callee := Go.Callee.builtin Go.Builtin.append , args := #[ Go.Operand.tmp 70 , Go.Operand.tmp 82 ] , argTypes := #[ 49 , 49 ] } , type := 49 , pos := "ref.go:118" , after := #[ { on := 1 , ground := Go.Ground.data } , { on := 13 , ground := Go.Ground.data } ] , guard := none }, { dst := some 84 , op := Go.Op.fieldAddr 51 ( Go.Operand.tmp 8 ) 4 , type := 0 , pos := "ref.go:118" , after := #[ { on := 0 , ground := Go.Ground.phase } , { on := 1 , ground := Go.Ground.phase } , { on := 2 , ground := Go.Ground.phase } , { on := 3 , ground := Go.Ground.phase } , { on := 4 , ground := Go.Ground.phase } , { on := 5 , ground := Go.Ground.phase } , { on := 6 , ground := Go.Ground.phase } , { on := 7 , ground := Go.Ground.phase } , { on := 8 , ground := Go.Ground.phase } , { on := 9 , ground := Go.Ground.phase } , { on := 10 , ground := Go.Ground.phase } , { on := 11 , ground := Go.Ground.phase } , { on := 12 , ground := Go.Ground.phase } , { on := 13 , ground := Go.Ground.phase } , { on := 14 , ground := Go.Ground.phase } ] , guard := none }, { dst := none , op := Go.Op.store 49 ( Go.Operand.tmp 84 ) ( Go.Operand.tmp 83 ) , type := 0 , pos := "ref.go:118" , after := #[ { on := 15 , ground := Go.Ground.data } , { on := 14 , ground := Go.Ground.data } , { on := 14 , ground := Go.Ground.chain } , { on := 0 , ground := Go.Ground.phase } , { on := 1 , ground := Go.Ground.phase } , { on := 2 , ground := Go.Ground.phase } , { on := 3 , ground := Go.Ground.phase } , { on := 4 , ground := Go.Ground.phase } , { on := 5 , ground := Go.Ground.phase } , { on := 6 , ground := Go.Ground.phase } , { on := 7 , ground := Go.Ground.phase } , { on := 8 , ground := Go.Ground.phase } , { on := 9 , ground := Go.Ground.phase } , { on := 10 , ground := Go.Ground.phase } , { on := 11 , ground := Go.Ground.phase } , { on := 12 , ground := Go.Ground.phase } , { on := 13 , ground := Go.Ground.phase } , { on := 14 , ground := Go.Ground.phase } ] , guard := none }]) (by kernel_rfl)
          refine wpAnyJ_takeG (i := 0) (oi := { dst := some 69 , op := Go.Op.fieldAddr 51 ( Go.Operand.tmp 8 ) 4 , type := 0 , pos := "ref.go:118" , after := #[ ] , guard := none }) (v := ?v0_21) hG hsel (by kernel_rfl) (by kernel_rfl) (by kernel_rfl) (by kernel_rfl) (fun _ _ _ h => h) (Or.inl (And.intro (by kernel_rfl) ?q0_21)) hS0 ?r0_21
          case q0_21 => intro w hx; refine run_env [8] [?a0_21_8] (by kernel_rfl) (by kernel_rfl) (⟨?e0_21_8, trivial⟩) ?h0_21; (case e0_21_8 => ((conv => lhs; whnf); (try exact rfl))); (case h0_21 => ((try dsimp only); (try simp only [envL, lookV, if_true, if_false]); (try go_simp); (try with_reducible rfl)))
          (try simp only [Act.put, List.setIfInBounds_toArray, List.set_cons_zero, List.set_cons_succ, List.getElem_toArray, List.getElem_cons_succ, List.getElem_cons_zero])
          refine wpAnyJ_takeG (i := 1) (oi := { dst := some 70 , op := Go.Op.load 49 ( Go.Operand.tmp 69 ) , type := 49 , pos := "ref.go:118" , after := #[ { on := 0 , ground := Go.Ground.data } ] , guard := none }) (v := ?v1_22) hG hsel (by kernel_rfl) (by kernel_rfl) (by kernel_rfl) (by kernel_rfl) (fun _ _ _ h => h) (Or.inl (And.intro (by kernel_rfl) ?q1_22)) hS0 ?r1_22
          case q1_22 => intro w hx; refine run_env [69] [?a1_22_69] (by kernel_rfl) (by kernel_rfl) (⟨?e1_22_69, trivial⟩) ?h1_22; (case e1_22_69 => ((conv => lhs; whnf); (try exact rfl))); (case h1_22 => ((try dsimp only); (try simp only [envL, lookV, if_true, if_false]); (try go_simp); (try with_reducible rfl)))
          (try simp only [Act.put, List.setIfInBounds_toArray, List.set_cons_zero, List.set_cons_succ, List.getElem_toArray, List.getElem_cons_succ, List.getElem_cons_zero])
          refine wpAnyJ_takeG (i := 2) (oi := { dst := some 71 , op := Go.Op.move ( Go.Operand.tmp 1 ) , type := 32 , pos := "ref.go:118" , after := #[ ] , guard := none }) (v := ?v2_23) hG hsel (by kernel_rfl) (by kernel_rfl) (by kernel_rfl) (by kernel_rfl) (fun _ _ _ h => h) (Or.inl (And.intro (by kernel_rfl) ?q2_23)) hS0 ?r2_23
          case q2_23 => intro w hx; refine run_env [1] [?a2_23_1] (by kernel_rfl) (by kernel_rfl) (⟨?e2_23_1, trivial⟩) ?h2_23; (case e2_23_1 => ((conv => lhs; whnf); (try exact rfl))); (case h2_23 => ((try dsimp only); (try simp only [envL, lookV, if_true, if_false]); (try go_simp); (try with_reducible rfl)))
          (try simp only [Act.put, List.setIfInBounds_toArray, List.set_cons_zero, List.set_cons_succ, List.getElem_toArray, List.getElem_cons_succ, List.getElem_cons_zero])
          refine wpAnyJ_takeG (i := 3) (oi := { dst := some 72 , op := Go.Op.move ( Go.Operand.tmp 9 ) , type := 3 , pos := "ref.go:118" , after := #[ ] , guard := none }) (v := ?v3_24) hG hsel (by kernel_rfl) (by kernel_rfl) (by kernel_rfl) (by kernel_rfl) (fun _ _ _ h => h) (Or.inl (And.intro (by kernel_rfl) ?q3_24)) hS0 ?r3_24
          case q3_24 => intro w hx; refine run_env [9] [?a3_24_9] (by kernel_rfl) (by kernel_rfl) (⟨?e3_24_9, trivial⟩) ?h3_24; (case e3_24_9 => ((conv => lhs; whnf); (try exact rfl))); (case h3_24 => ((try dsimp only); (try simp only [envL, lookV, if_true, if_false]); (try go_simp); (try with_reducible rfl)))
          (try simp only [Act.put, List.setIfInBounds_toArray, List.set_cons_zero, List.set_cons_succ, List.getElem_toArray, List.getElem_cons_succ, List.getElem_cons_zero])
          refine wpAnyJ_takeG (i := 4) (oi := { dst := some 73 , op := Go.Op.indexAddr 32 ( Go.Operand.tmp 71 ) ( Go.Operand.tmp 72 ) , type := 0 , pos := "ref.go:118" , after := #[ { on := 2 , ground := Go.Ground.data } , { on := 3 , ground := Go.Ground.data } ] , guard := none }) (v := ?v4_25) hG hsel (by kernel_rfl) (by kernel_rfl) (by kernel_rfl) (by kernel_rfl) (fun _ _ _ h => h) (Or.inl (And.intro (by kernel_rfl) ?q4_25)) hS0 ?r4_25
          case q4_25 => intro w hx; refine run_env [71, 72] [?a4_25_71, ?a4_25_72] (by kernel_rfl) (by kernel_rfl) (⟨?e4_25_71, ?e4_25_72, trivial⟩) ?h4_25; (case e4_25_71 => ((conv => lhs; whnf); (try exact rfl))); (case e4_25_72 => ((conv => lhs; whnf); (try exact rfl))); (case h4_25 => ((try dsimp only); (try simp only [envL, lookV, if_true, if_false]); (try go_simp); (try with_reducible rfl)))
          (try simp only [Act.put, List.setIfInBounds_toArray, List.set_cons_zero, List.set_cons_succ, List.getElem_toArray, List.getElem_cons_succ, List.getElem_cons_zero])
          refine wpAnyJ_takeG (i := 5) (oi := { dst := some 74 , op := Go.Op.load 26 ( Go.Operand.tmp 73 ) , type := 26 , pos := "ref.go:118" , after := #[ { on := 4 , ground := Go.Ground.data } ] , guard := none }) (v := ?v5_26) hG hsel (by kernel_rfl) (by kernel_rfl) (by kernel_rfl) (by kernel_rfl) (fun _ _ _ h => h) (Or.inl (And.intro (by kernel_rfl) ?q5_26)) hS0 ?r5_26
          case q5_26 => intro w hx; refine run_env [73] [?a5_26_73] (by kernel_rfl) (by kernel_rfl) (⟨?e5_26_73, trivial⟩) ?h5_26; (case e5_26_73 => ((conv => lhs; whnf); (try exact rfl))); (case h5_26 => ((try dsimp only); (try simp only [envL, lookV, if_true, if_false]); (try go_simp); (try with_reducible rfl)))
          (try simp only [Act.put, List.setIfInBounds_toArray, List.set_cons_zero, List.set_cons_succ, List.getElem_toArray, List.getElem_cons_succ, List.getElem_cons_zero])
          refine wpAnyJ_takeG (i := 6) (oi := { dst := some 75 , op := Go.Op.fieldAddr 36 ( Go.Operand.tmp 3 ) 4 , type := 0 , pos := "ref.go:118" , after := #[ ] , guard := none }) (v := ?v6_27) hG hsel (by kernel_rfl) (by kernel_rfl) (by kernel_rfl) (by kernel_rfl) (fun _ _ _ h => h) (Or.inl (And.intro (by kernel_rfl) ?q6_27)) hS0 ?r6_27
          case q6_27 => intro w hx; refine run_env [3] [?a6_27_3] (by kernel_rfl) (by kernel_rfl) (⟨?e6_27_3, trivial⟩) ?h6_27; (case e6_27_3 => ((conv => lhs; whnf); (try exact rfl))); (case h6_27 => ((try dsimp only); (try simp only [envL, lookV, if_true, if_false]); (try go_simp); (try with_reducible rfl)))
          (try simp only [Act.put, List.setIfInBounds_toArray, List.set_cons_zero, List.set_cons_succ, List.getElem_toArray, List.getElem_cons_succ, List.getElem_cons_zero])
          refine wpAnyJ_takeG (i := 7) (oi := { dst := some 76 , op := Go.Op.load 34 ( Go.Operand.tmp 75 ) , type := 34 , pos := "ref.go:118" , after := #[ { on := 6 , ground := Go.Ground.data } ] , guard := none }) (v := ?v7_28) hG hsel (by kernel_rfl) (by kernel_rfl) (by kernel_rfl) (by kernel_rfl) (fun _ _ _ h => h) (Or.inl (And.intro (by kernel_rfl) ?q7_28)) hS0 ?r7_28
          case q7_28 => intro w hx; refine run_env [75] [?a7_28_75] (by kernel_rfl) (by kernel_rfl) (⟨?e7_28_75, trivial⟩) ?h7_28; (case e7_28_75 => ((conv => lhs; whnf); (try exact rfl))); (case h7_28 => ((try dsimp only); (try simp only [envL, lookV, if_true, if_false]); (try go_simp); (try with_reducible rfl)))
          (try simp only [Act.put, List.setIfInBounds_toArray, List.set_cons_zero, List.set_cons_succ, List.getElem_toArray, List.getElem_cons_succ, List.getElem_cons_zero])
          refine wpAnyJ_takeG (i := 8) (oi := { dst := some 77 , op := Go.Op.move ( Go.Operand.tmp 9 ) , type := 3 , pos := "ref.go:118" , after := #[ ] , guard := none }) (v := ?v8_29) hG hsel (by kernel_rfl) (by kernel_rfl) (by kernel_rfl) (by kernel_rfl) (fun _ _ _ h => h) (Or.inl (And.intro (by kernel_rfl) ?q8_29)) hS0 ?r8_29
          case q8_29 => intro w hx; refine run_env [9] [?a8_29_9] (by kernel_rfl) (by kernel_rfl) (⟨?e8_29_9, trivial⟩) ?h8_29; (case e8_29_9 => ((conv => lhs; whnf); (try exact rfl))); (case h8_29 => ((try dsimp only); (try simp only [envL, lookV, if_true, if_false]); (try go_simp); (try with_reducible rfl)))
          (try simp only [Act.put, List.setIfInBounds_toArray, List.set_cons_zero, List.set_cons_succ, List.getElem_toArray, List.getElem_cons_succ, List.getElem_cons_zero])
          refine wpAnyJ_takeG (i := 9) (oi := { dst := some 78 , op := Go.Op.indexAddr 34 ( Go.Operand.tmp 76 ) ( Go.Operand.tmp 77 ) , type := 0 , pos := "ref.go:118" , after := #[ { on := 7 , ground := Go.Ground.data } , { on := 8 , ground := Go.Ground.data } ] , guard := none }) (v := ?v9_30) hG hsel (by kernel_rfl) (by kernel_rfl) (by kernel_rfl) (by kernel_rfl) (fun _ _ _ h => h) (Or.inl (And.intro (by kernel_rfl) ?q9_30)) hS0 ?r9_30
          case q9_30 => intro w hx; refine run_env [76, 77] [?a9_30_76, ?a9_30_77] (by kernel_rfl) (by kernel_rfl) (⟨?e9_30_76, ?e9_30_77, trivial⟩) ?h9_30; (case e9_30_76 => ((conv => lhs; whnf); (try exact rfl))); (case e9_30_77 => ((conv => lhs; whnf); (try exact rfl))); (case h9_30 => ((try dsimp only); (try simp only [envL, lookV, if_true, if_false]); (try go_simp); (try with_reducible rfl)))
          (try simp only [Act.put, List.setIfInBounds_toArray, List.set_cons_zero, List.set_cons_succ, List.getElem_toArray, List.getElem_cons_succ, List.getElem_cons_zero])
          refine wpAnyJ_takeG (i := 10) (oi := { dst := some 79 , op := Go.Op.fieldAddr 42 ( Go.Operand.tmp 78 ) 1 , type := 0 , pos := "ref.go:118" , after := #[ { on := 9 , ground := Go.Ground.data } ] , guard := none }) (v := ?v10_31) hG hsel (by kernel_rfl) (by kernel_rfl) (by kernel_rfl) (by kernel_rfl) (fun _ _ _ h => h) (Or.inl (And.intro (by kernel_rfl) ?q10_31)) hS0 ?r10_31
          case q10_31 => intro w hx; refine run_env [78] [?a10_31_78] (by kernel_rfl) (by kernel_rfl) (⟨?e10_31_78, trivial⟩) ?h10_31; (case e10_31_78 => ((conv => lhs; whnf); (try exact rfl))); (case h10_31 => ((try dsimp only); (try simp only [envL, lookV, if_true, if_false]); (try go_simp); (try with_reducible rfl)))
          (try simp only [Act.put, List.setIfInBounds_toArray, List.set_cons_zero, List.set_cons_succ, List.getElem_toArray, List.getElem_cons_succ, List.getElem_cons_zero])
          refine wpAnyJ_takeG (i := 11) (oi := { dst := some 80 , op := Go.Op.load 26 ( Go.Operand.tmp 79 ) , type := 26 , pos := "ref.go:118" , after := #[ { on := 10 , ground := Go.Ground.data } ] , guard := none }) (v := ?v11_32) hG hsel (by kernel_rfl) (by kernel_rfl) (by kernel_rfl) (by kernel_rfl) (fun _ _ _ h => h) (Or.inl (And.intro (by kernel_rfl) ?q11_32)) hS0 ?r11_32
          case q11_32 => intro w hx; refine run_env [79] [?a11_32_79] (by kernel_rfl) (by kernel_rfl) (⟨?e11_32_79, trivial⟩) ?h11_32; (case e11_32_79 => ((conv => lhs; whnf); (try exact rfl))); (case h11_32 => ((try dsimp only); (try simp only [envL, lookV, if_true, if_false]); (try go_simp); (try with_reducible rfl)))
          (try simp only [Act.put, List.setIfInBounds_toArray, List.set_cons_zero, List.set_cons_succ, List.getElem_toArray, List.getElem_cons_succ, List.getElem_cons_zero])
          refine wpAnyJ_takeG (i := 12) (oi := { dst := some 81 , op := Go.Op.build 69 #[ ( 0 , Go.Operand.tmp 74 ) , ( 1 , Go.Operand.tmp 80 ) ] , type := 69 , pos := "ref.go:118" , after := #[ { on := 5 , ground := Go.Ground.data } , { on := 11 , ground := Go.Ground.data } ] , guard := none }) (v := ?v12_33) hG hsel (by kernel_rfl) (by kernel_rfl) (by kernel_rfl) (by kernel_rfl) (fun _ _ _ h => h) (Or.inl (And.intro (by kernel_rfl) ?q12_33)) hS0 ?r12_33
          case q12_33 => intro w hx; refine run_env [74, 80] [?a12_33_74, ?a12_33_80] (by kernel_rfl) (by kernel_rfl) (⟨?e12_33_74, ?e12_33_80, trivial⟩) ?h12_33; (case e12_33_74 => ((conv => lhs; whnf); (try exact rfl))); (case e12_33_80 => ((conv => lhs; whnf); (try exact rfl))); (case h12_33 => ((try dsimp only); (try simp only [envL, lookV, if_true, if_false]); (try go_simp); (try with_reducible rfl)))
          (try simp only [Act.put, List.setIfInBounds_toArray, List.set_cons_zero, List.set_cons_succ, List.getElem_toArray, List.getElem_cons_succ, List.getElem_cons_zero])
          refine wpAnyJ_ready (rs := [13]) (by kernel_rfl) (by simp) ?_
          refine (AllReadyJ.cons rfl (fun K hK => ?_) AllReadyJ.nil)
          rw [if_pos (by kernel_rfl)]
          (try simp only [List.getElem_toArray, List.getElem_cons_succ, List.getElem_cons_zero])
          (focus go_simp)
          refine hK.out _ _ ?hs (fun hS0 => ?_)
          case hs => (first | with_reducible exact hS0 | with_reducible exact st | exact Only.then hS0 (fresh_below _ _))
          clear hK K
          (try simp only [Act.put, List.setIfInBounds_toArray, List.set_cons_zero, List.set_cons_succ, List.getElem_toArray, List.getElem_cons_succ, List.getElem_cons_zero])
          refine wpAnyJ_ready (rs := [14]) (by kernel_rfl) (by simp) ?_
          refine (AllReadyJ.cons rfl (fun K hK => ?_) AllReadyJ.nil)
          (focus (refine RowK.step_app (K := dholdK) rfl (.tmp 70) (.tmp 82) rfl _ _ rfl rfl (holdsL (q.ws.take kk) (os.take kk)) [holdOf r t] (RowK.Own.below (RowK.Own.below GZ.out.own (Below.drew (Below.refl _ _))) (fresh_below _ _)) (RowK.Read.one (Cells.new _ _ _)) (by rw [holdsL_len _ _ (by simp; omega)]; simp; omega) ?_; intro A1 n1 w9 o9 g9' h9; rw [HLN.out] at o9 h9 ⊢; have st := Only.app hS0 g9' (fun j e => Or.inl (by rw [HFE.out]; exact e))))
          (focus (try go_wp2_with fail))
          refine hK.out _ _ ?hs (fun hS0 => ?_)
          case hs => (first | with_reducible exact hS0 | with_reducible exact st | exact Only.then hS0 (fresh_below _ _))
          clear hK K
          (try simp only [Act.put, List.setIfInBounds_toArray, List.set_cons_zero, List.set_cons_succ, List.getElem_toArray, List.getElem_cons_succ, List.getElem_cons_zero])
          refine wpAnyJ_takeG (i := 15) (oi := { dst := some 84 , op := Go.Op.fieldAddr 51 ( Go.Operand.tmp 8 ) 4 , type := 0 , pos := "ref.go:118" , after := #[ { on := 0 , ground := Go.Ground.phase } , { on := 1 , ground := Go.Ground.phase } , { on := 2 , ground := Go.Ground.phase } , { on := 3 , ground := Go.Ground.phase } , { on := 4 , ground := Go.Ground.phase } , { on := 5 , ground := Go.Ground.phase } , { on := 6 , ground := Go.Ground.phase } , { on := 7 , ground := Go.Ground.phase } , { on := 8 , ground := Go.Ground.phase } , { on := 9 , ground := Go.Ground.phase } , { on := 10 , ground := Go.Ground.phase } , { on := 11 , ground := Go.Ground.phase } , { on := 12 , ground := Go.Ground.phase } , { on := 13 , ground := Go.Ground.phase } , { on := 14 , ground := Go.Ground.phase } ] , guard := none }) (v := ?v15_34) hG hsel (by kernel_rfl) (by kernel_rfl) (by kernel_rfl) (by kernel_rfl) (fun _ _ _ h => h) (Or.inl (And.intro (by kernel_rfl) ?q15_34)) hS0 ?r15_34
          case q15_34 => intro w hx; refine run_env [8] [?a15_34_8] (by kernel_rfl) (by kernel_rfl) (⟨?e15_34_8, trivial⟩) ?h15_34; (case e15_34_8 => ((conv => lhs; whnf); (try exact rfl))); (case h15_34 => ((try dsimp only); (try simp only [envL, lookV, if_true, if_false]); (try go_simp); (try with_reducible rfl)))
          (try simp only [Act.put, List.setIfInBounds_toArray, List.set_cons_zero, List.set_cons_succ, List.getElem_toArray, List.getElem_cons_succ, List.getElem_cons_zero])
          refine wpAnyJ_ready (rs := [16]) (by kernel_rfl) (by simp) ?_
          refine (AllReadyJ.last rfl (by kernel_rfl) (fun K hK => ?_) AllReadyJ.nil)
          (focus (rw [if_pos (by kernel_rfl)]; have y9 := q8 _ hS0; have f9' := f8 _ hS0; go_simp))
          (focus (try go_wp2_with fail))
          refine hK.out _ _ ?_
          clear hK K
          (try simp only [Act.put, List.setIfInBounds_toArray, List.set_cons_zero, List.set_cons_succ, List.getElem_toArray, List.getElem_cons_succ, List.getElem_cons_zero])
          refine wpAnyJ_done (by kernel_rfl) ?_ _
        have gr2 : Grow dholdK wq g8 (fun v => #[.int .u8 q.x.p, .int .u32 q.x.si, .int .u16 q.x.sp, .int .u32 q.x.di, .int .u16 q.x.dp, .int .u8 q.x.p, .int .u32 q.di, .int .u16 q.dp, .int .u32 q.x.si, .int .u16 q.x.sp, .int .i64 q.st, .int .i64 0, v]) 51 (holdsL (q.ws.take (kk + 1)) (os.take (kk + 1))) _ (w9.setCell ⟨g8, 12, none⟩ (.slice A1 (kk + 1) n1)) := Grow.step (l := holdsL (q.ws.take kk) (os.take kk)) GZ.out (fun u v => by simp) (by rw [HFE.out] at hS0; exact hS0) (by rw [holdsL_snoc _ _ hl hlo, ← HR.out, ← HTT.out]; exact o9) (by
          rcases h9 with e | e
          · exact Or.inl e
          · exact Or.inr (fun j k => by rw [e] at k; cases k; simp))
        have GR2 := hide gr2
        clear g9' h9 o9 t0 t1 t2 t3 t4 q8 f8 bb s12 gr2 hS0 GZ K0Z LZ HFE HFG HB HRW0 HRP0 HR HTT HLN st
        generalize (w9.setCell ⟨g8, 12, none⟩ (.slice A1 (kk + 1) n1)) = w10 at *
        go_wp2_with fail
        go_roundg (n - (kk + 1))
        case measure => omega
        case rel => exact ⟨kk + 1, by omega, by omega, by go_num, (show Aside _ from ⟨_, GR2.out⟩), (show Aside _ from FT3.out)⟩
    · have hltz : ¬ (kk : Int) < (n : Int) := by omega
      have e0 : kk = n := by omega
      subst e0
      have FTA : fitsL q.ws os = true := by have := FT.out; rwa [List.take_of_length_le (by have := HN.out; omega), List.take_of_length_le (by have := HNO.out; omega)] at this
      have own := gr.own
      have hup := gr.up
      rw [List.take_of_length_le (by have := HN.out; omega), List.take_of_length_le (by have := HNO.out; omega)] at own
      obtain ⟨A2, c2, hV, hc2⟩ := own.slice
      rw [HLEN.out] at hV hc2
      subst hV
      have hrv := HRV.out
      rw [if_neg (by rw [FTA]; decide)] at hrv
      have HRW := hide hrv
      clear HRV hrv FTA
      have qk0_0 : ∀ W', Below wr.heap.size wr W' → World.cell? W' ⟨w.heap.size, 0, none⟩ = some (.int .u8 q.x.p) := fun W' h => Cells.at_ (Cells.below h k0) 0
      have qk0_1 : ∀ W', Below wr.heap.size wr W' → World.cell? W' ⟨w.heap.size, 1, none⟩ = some (.int .u32 q.x.si) := fun W' h => Cells.at_ (Cells.below h k0) 1
      have qk0_2 : ∀ W', Below wr.heap.size wr W' → World.cell? W' ⟨w.heap.size, 2, none⟩ = some (.int .u16 q.x.sp) := fun W' h => Cells.at_ (Cells.below h k0) 2
      have qk0_3 : ∀ W', Below wr.heap.size wr W' → World.cell? W' ⟨w.heap.size, 3, none⟩ = some (.int .u32 q.x.di) := fun W' h => Cells.at_ (Cells.below h k0) 3
      have qk0_4 : ∀ W', Below wr.heap.size wr W' → World.cell? W' ⟨w.heap.size, 4, none⟩ = some (.int .u16 q.x.dp) := fun W' h => Cells.at_ (Cells.below h k0) 4
      have qk0_5 : ∀ W', Below wr.heap.size wr W' → World.cell? W' ⟨w.heap.size, 5, none⟩ = some (.int .u32 q.di) := fun W' h => Cells.at_ (Cells.below h k0) 5
      have qk0_6 : ∀ W', Below wr.heap.size wr W' → World.cell? W' ⟨w.heap.size, 6, none⟩ = some (.int .u16 q.dp) := fun W' h => Cells.at_ (Cells.below h k0) 6
      have qk0_7 : ∀ W', Below wr.heap.size wr W' → World.cell? W' ⟨w.heap.size, 7, none⟩ = some (.bool false) := fun W' h => Cells.at_ (Cells.below h k0) 7
      have qk0_8 : ∀ W', Below wr.heap.size wr W' → World.cell? W' ⟨w.heap.size, 8, none⟩ = some (.int .i64 q.st) := fun W' h => Cells.at_ (Cells.below h k0) 8
      have qk0_9 : ∀ W', Below wr.heap.size wr W' → World.cell? W' ⟨w.heap.size, 9, none⟩ = some (.slice A kk c) := fun W' h => Cells.at_ (Cells.below h k0) 9
      have f9 : ∀ W', Below wr.heap.size wr W' → World.frozen? W' ⟨g8, 11, none⟩ = false := fun W' hW => (Cells.below hW kg).free 11
      have y9 : ∀ W', Below wr.heap.size wr W' → World.cell? W' ⟨g8, 11, none⟩ = some (.int .i64 0) := fun W' hW => (Cells.below hW kg).at_ 11
      have bb : Below wr.heap.size wr wr := Below.refl _ _
      have htb := HTB.out
      have n0 := N0.out; have n1 := N1.out
      have hwr : IntKind.i64.wrap (now + tv) = now + tv := IntWalk.i64_in _ (by omega)
      have c4 := fun W => d_Flow W q.x.p
      have c7 := fun W => d_Timeout W (flowV q.x.p) q.st
      rw [HTV.out] at c7
      have C4 := hide c4; have C7 := hide c7
      have KG := hide kg; have K1 := hide k1; have LWR := hide lw; have OW := hide own; have UP := hide hup
      clear c4 c7 k0 k1 kg lw own hup gr FT htb n0 n1
      go_upto_region 13 with fail
      have s14 : Below wr.heap.size wr wr.drew := Below.drew bb
      focus
        refine wp_region_J [10] (fun W => Below wr.heap.size wr W) (by kernel_rfl) (s14) (fun hS0 => ?_)
        obtain ⟨hG, hsel⟩ := okOps (md := .any) (ops := #[{ dst := some 85 , op := Go.Op.move ( Go.Operand.tmp 2 ) , type := 3 , pos := "ref.go:120" , after := #[ ] , guard := none }, { dst := some 86 , op := Go.Op.fieldAddr 36 ( Go.Operand.tmp 3 ) 0 , type := 0 , pos := "ref.go:120" , after := #[ ] , guard := none }, { dst := some 87 , op := Go.Op.fieldAddr 28 ( Go.Operand.tmp 86 ) 0 , type := 0 , pos := "ref.go:120" , after := #[ { on := 1 , ground := Go.Ground.data } ] , guard := none }, { dst := some 88 , op := Go.Op.load 5 ( Go.Operand.tmp 87 ) , type := 5 , pos := "ref.go:120" , after := #[ { on := 2 , ground := Go.Ground.data } ] , guard := none }, { dst := some 89 , op := Go.Op.call { callee := Go.Callee.value ( Go.Operand.func 19 ) , args := #[ Go.Operand.tmp 88 ] , argTypes := #[ 5 ] } , type := 3 , pos := "ref.go:120" , after := #[ { on := 3 , ground := Go.Ground.data } ] , guard := none }, { dst := some 90 , op := Go.Op.fieldAddr 36 ( Go.Operand.tmp 3 ) 3 , type := 0 , pos := "ref.go:120" , after := #[ ] , guard := none }, { dst := some 91 , op := Go.Op.load 3 ( Go.Operand.tmp 90 ) , type := 3 , pos := "ref.go:120" , after := #[ { on := 5 , ground := Go.Ground.data } ] , guard := none }, { dst := some 92 , op := Go.Op.call { callee := Go.Callee.value ( Go.Operand.func 18 ) , args := #[ Go.Operand.tmp 89 , Go.Operand.tmp 91 ] , argTypes := #[ 3 , 3 ] } , type := 3 , pos := "ref.go:120" , after := #[ { on := 4 , ground := Go.Ground.data } , { on := 6 , ground := Go.Ground.data } , { on := 4 , ground := Go.Ground.chain } ] , guard := none }, { dst := some 93 , op := Go.Op.binOp Go.BinOp.add 3 ( Go.Operand.tmp 85 ) ( Go.Operand.tmp 92 ) 3 , type := 3 , pos := "ref.go:120" , after := #[ { on := 0 , ground := Go.Ground.data } , { on := 7 , ground := Go.Ground.data } ] , guard := none }, { dst := some 94 , op := Go.Op.fieldAddr 51 ( Go.Operand.tmp 8 ) 3 , type := 0 , pos := "ref.go:120" , after := #[ { on := 0 , ground := Go.Ground.phase } , { on := 1 , ground := Go.Ground.phase } , { on := 2 , ground := Go.Ground.phase } , { on := 3 , ground := Go.Ground.phase } , { on := 4 , ground := Go.Ground.phase } , { on := 5 , ground := Go.Ground.phase } , { on := 6 , ground := Go.Ground.phase } , { on := 7 , ground := Go.Ground.phase } , { on := 8 , ground := Go.Ground.phase } ] , guard := none }, { dst := none , op := Go.Op.store 3 ( Go.Operand.tmp 94 ) ( Go.Operand.tmp 93 ) , type := 0 , pos := "ref.go:120" , after := #[ { on := 9 , ground := Go.Ground.data } , { on := 8 , ground := Go.Ground.data } , { on := 7 , ground := Go.Ground.chain } , { on := 0 , ground := Go.Ground.phase } , { on := 1 , ground := Go.Ground.phase } , { on := 2 , ground := Go.Ground.phase } , { on := 3 , ground := Go.Ground.phase } , { on := 4 , ground := Go.Ground.phase } , { on := 5 , ground := Go.Ground.phase } , { on := 6 , ground := Go.Ground.phase } , { on := 7 , ground := Go.Ground.phase } , { on := 8 , ground := Go.Ground.phase } ] , guard := none }]) (by kernel_rfl)
        refine wpAnyJ_takeG (i := 0) (oi := { dst := some 85 , op := Go.Op.move ( Go.Operand.tmp 2 ) , type := 3 , pos := "ref.go:120" , after := #[ ] , guard := none }) (v := ?v0_35) hG hsel (by kernel_rfl) (by kernel_rfl) (by kernel_rfl) (by kernel_rfl) (fun _ _ _ h => h) (Or.inl (And.intro (by kernel_rfl) ?q0_35)) hS0 ?r0_35
        case q0_35 => intro w hx; refine run_env [2] [?a0_35_2] (by kernel_rfl) (by kernel_rfl) (⟨?e0_35_2, trivial⟩) ?h0_35; (case e0_35_2 => ((conv => lhs; whnf); (try exact rfl))); (case h0_35 => ((try dsimp only); (try simp only [envL, lookV, if_true, if_false]); (try go_simp); (try with_reducible rfl)))
        (try simp only [Act.put, List.setIfInBounds_toArray, List.set_cons_zero, List.set_cons_succ, List.getElem_toArray, List.getElem_cons_succ, List.getElem_cons_zero])
        refine wpAnyJ_takeG (i := 1) (oi := { dst := some 86 , op := Go.Op.fieldAddr 36 ( Go.Operand.tmp 3 ) 0 , type := 0 , pos := "ref.go:120" , after := #[ ] , guard := none }) (v := ?v1_36) hG hsel (by kernel_rfl) (by kernel_rfl) (by kernel_rfl) (by kernel_rfl) (fun _ _ _ h => h) (Or.inl (And.intro (by kernel_rfl) ?q1_36)) hS0 ?r1_36
        case q1_36 => intro w hx; refine run_env [3] [?a1_36_3] (by kernel_rfl) (by kernel_rfl) (⟨?e1_36_3, trivial⟩) ?h1_36; (case e1_36_3 => ((conv => lhs; whnf); (try exact rfl))); (case h1_36 => ((try dsimp only); (try simp only [envL, lookV, if_true, if_false]); (try go_simp); (try with_reducible rfl)))
        (try simp only [Act.put, List.setIfInBounds_toArray, List.set_cons_zero, List.set_cons_succ, List.getElem_toArray, List.getElem_cons_succ, List.getElem_cons_zero])
        refine wpAnyJ_takeG (i := 2) (oi := { dst := some 87 , op := Go.Op.fieldAddr 28 ( Go.Operand.tmp 86 ) 0 , type := 0 , pos := "ref.go:120" , after := #[ { on := 1 , ground := Go.Ground.data } ] , guard := none }) (v := ?v2_37) hG hsel (by kernel_rfl) (by kernel_rfl) (by kernel_rfl) (by kernel_rfl) (fun _ _ _ h => h) (Or.inl (And.intro (by kernel_rfl) ?q2_37)) hS0 ?r2_37
        case q2_37 => intro w hx; refine run_env [86] [?a2_37_86] (by kernel_rfl) (by kernel_rfl) (⟨?e2_37_86, trivial⟩) ?h2_37; (case e2_37_86 => ((conv => lhs; whnf); (try exact rfl))); (case h2_37 => ((try dsimp only); (try simp only [envL, lookV, if_true, if_false]); (try go_simp); (try with_reducible rfl)))
        (try simp only [Act.put, List.setIfInBounds_toArray, List.set_cons_zero, List.set_cons_succ, List.getElem_toArray, List.getElem_cons_succ, List.getElem_cons_zero])
        refine wpAnyJ_takeG (i := 3) (oi := { dst := some 88 , op := Go.Op.load 5 ( Go.Operand.tmp 87 ) , type := 5 , pos := "ref.go:120" , after := #[ { on := 2 , ground := Go.Ground.data } ] , guard := none }) (v := ?v3_38) hG hsel (by kernel_rfl) (by kernel_rfl) (by kernel_rfl) (by kernel_rfl) (fun _ _ _ h => h) (Or.inl (And.intro (by kernel_rfl) ?q3_38)) hS0 ?r3_38
        case q3_38 => intro w hx; refine run_env [87] [?a3_38_87] (by kernel_rfl) (by kernel_rfl) (⟨?e3_38_87, trivial⟩) ?h3_38; (case e3_38_87 => ((conv => lhs; whnf); (try exact rfl))); (case h3_38 => ((try dsimp only); (try simp only [envL, lookV, if_true, if_false]); (try go_simp); (try with_reducible rfl)))
        (try simp only [Act.put, List.setIfInBounds_toArray, List.set_cons_zero, List.set_cons_succ, List.getElem_toArray, List.getElem_cons_succ, List.getElem_cons_zero])
        refine wpAnyJ_takeG (i := 5) (oi := { dst := some 90 , op := Go.Op.fieldAddr 36 ( Go.Operand.tmp 3 ) 3 , type := 0 , pos := "ref.go:120" , after := #[ ] , guard := none }) (v := ?v5_39) hG hsel (by kernel_rfl) (by kernel_rfl) (by kernel_rfl) (by kernel_rfl) (fun _ _ _ h => h) (Or.inl (And.intro (by kernel_rfl) ?q5_39)) hS0 ?r5_39
        case q5_39 => intro w hx; refine run_env [3] [?a5_39_3] (by kernel_rfl) (by kernel_rfl) (⟨?e5_39_3, trivial⟩) ?h5_39; (case e5_39_3 => ((conv => lhs; whnf); (try exact rfl))); (case h5_39 => ((try dsimp only); (try simp only [envL, lookV, if_true, if_false]); (try go_simp); (try with_reducible rfl)))
        (try simp only [Act.put, List.setIfInBounds_toArray, List.set_cons_zero, List.set_cons_succ, List.getElem_toArray, List.getElem_cons_succ, List.getElem_cons_zero])
        refine wpAnyJ_takeG (i := 6) (oi := { dst := some 91 , op := Go.Op.load 3 ( Go.Operand.tmp 90 ) , type := 3 , pos := "ref.go:120" , after := #[ { on := 5 , ground := Go.Ground.data } ] , guard := none }) (v := ?v6_40) hG hsel (by kernel_rfl) (by kernel_rfl) (by kernel_rfl) (by kernel_rfl) (fun _ _ _ h => h) (Or.inl (And.intro (by kernel_rfl) ?q6_40)) hS0 ?r6_40
        case q6_40 => intro w hx; refine run_env [90] [?a6_40_90] (by kernel_rfl) (by kernel_rfl) (⟨?e6_40_90, trivial⟩) ?h6_40; (case e6_40_90 => ((conv => lhs; whnf); (try exact rfl))); (case h6_40 => ((try dsimp only); (try simp only [envL, lookV, if_true, if_false]); (try go_simp); (try with_reducible rfl)))
        (try simp only [Act.put, List.setIfInBounds_toArray, List.set_cons_zero, List.set_cons_succ, List.getElem_toArray, List.getElem_cons_succ, List.getElem_cons_zero])
        refine wpAnyJ_ready (rs := [4]) (by kernel_rfl) (by simp) ?_
        refine (AllReadyJ.cons rfl (fun K hK => ?_) AllReadyJ.nil)
        rw [if_pos (by kernel_rfl)]
        (try simp only [List.getElem_toArray, List.getElem_cons_succ, List.getElem_cons_zero])
        (focus go_simp)
        (focus ((with_reducible refine (C4.out _).mono ?_); rintro e wq4 ⟨rfl, bq4⟩; have sq := bstep hS0 bq4))
        (focus (try go_wp2_with fail))
        refine hK.out _ _ ?hs (fun hS0 => ?_)
        case hs => (first | with_reducible exact hS0 | with_reducible exact sq)
        clear hK K
        (try simp only [Act.put, List.setIfInBounds_toArray, List.set_cons_zero, List.set_cons_succ, List.getElem_toArray, List.getElem_cons_succ, List.getElem_cons_zero])
        refine wpAnyJ_ready (rs := [7]) (by kernel_rfl) (by simp) ?_
        refine (AllReadyJ.cons rfl (fun K hK => ?_) AllReadyJ.nil)
        rw [if_pos (by kernel_rfl)]
        (try simp only [List.getElem_toArray, List.getElem_cons_succ, List.getElem_cons_zero])
        (focus go_simp)
        (focus ((with_reducible refine (C7.out _).mono ?_); rintro e wq7 ⟨rfl, bq7⟩; have sq := bstep hS0 bq7))
        (focus (try go_wp2_with fail))
        refine hK.out _ _ ?hs (fun hS0 => ?_)
        case hs => (first | with_reducible exact hS0 | with_reducible exact sq)
        clear hK K
        (try simp only [Act.put, List.setIfInBounds_toArray, List.set_cons_zero, List.set_cons_succ, List.getElem_toArray, List.getElem_cons_succ, List.getElem_cons_zero])
        refine wpAnyJ_takeG (i := 8) (oi := { dst := some 93 , op := Go.Op.binOp Go.BinOp.add 3 ( Go.Operand.tmp 85 ) ( Go.Operand.tmp 92 ) 3 , type := 3 , pos := "ref.go:120" , after := #[ { on := 0 , ground := Go.Ground.data } , { on := 7 , ground := Go.Ground.data } ] , guard := none }) (v := ?v8_41) hG hsel (by kernel_rfl) (by kernel_rfl) (by kernel_rfl) (by kernel_rfl) (fun _ _ _ h => h) (Or.inl (And.intro (by kernel_rfl) ?q8_41)) hS0 ?r8_41
        case q8_41 => intro w hx; refine run_env [85, 92] [?a8_41_85, ?a8_41_92] (by kernel_rfl) (by kernel_rfl) (⟨?e8_41_85, ?e8_41_92, trivial⟩) ?h8_41; (case e8_41_85 => ((conv => lhs; whnf); (try exact rfl))); (case e8_41_92 => ((conv => lhs; whnf); (try exact rfl))); (case h8_41 => ((try dsimp only); (try simp only [envL, lookV, if_true, if_false]); (try go_simp); (try with_reducible rfl)))
        (try simp only [Act.put, List.setIfInBounds_toArray, List.set_cons_zero, List.set_cons_succ, List.getElem_toArray, List.getElem_cons_succ, List.getElem_cons_zero])
        refine wpAnyJ_takeG (i := 9) (oi := { dst := some 94 , op := Go.Op.fieldAddr 51 ( Go.Operand.tmp 8 ) 3 , type := 0 , pos := "ref.go:120" , after := #[ { on := 0 , ground := Go.Ground.phase } , { on := 1 , ground := Go.Ground.phase } , { on := 2 , ground := Go.Ground.phase } , { on := 3 , ground := Go.Ground.phase } , { on := 4 , ground := Go.Ground.phase } , { on := 5 , ground := Go.Ground.phase } , { on := 6 , ground := Go.Ground.phase } , { on := 7 , ground := Go.Ground.phase } , { on := 8 , ground := Go.Ground.phase } ] , guard := none }) (v := ?v9_42) hG hsel (by kernel_rfl) (by kernel_rfl) (by kernel_rfl) (by kernel_rfl) (fun _ _ _ h => h) (Or.inl (And.intro (by kernel_rfl) ?q9_42)) hS0 ?r9_42
        case q9_42 => intro w hx; refine run_env [8] [?a9_42_8] (by kernel_rfl) (by kernel_rfl) (⟨?e9_42_8, trivial⟩) ?h9_42; (case e9_42_8 => ((conv => lhs; whnf); (try exact rfl))); (case h9_42 => ((try dsimp only); (try simp only [envL, lookV, if_true, if_false]); (try go_simp); (try with_reducible rfl)))
        (try simp only [Act.put, List.setIfInBounds_toArray, List.set_cons_zero, List.set_cons_succ, List.getElem_toArray, List.getElem_cons_succ, List.getElem_cons_zero])
        refine wpAnyJ_ready (rs := [10]) (by kernel_rfl) (by simp) ?_
        refine (AllReadyJ.last rfl (by kernel_rfl) (fun K hK => ?_) AllReadyJ.nil)
        (focus (rw [if_pos (by kernel_rfl)]; have y9' := y9 _ hS0; have f9' := f9 _ hS0; go_simp))
        (focus (try go_wp2_with fail))
        refine hK.out _ _ ?_
        clear hK K
        (try simp only [Act.put, List.setIfInBounds_toArray, List.set_cons_zero, List.set_cons_succ, List.getElem_toArray, List.getElem_cons_succ, List.getElem_cons_zero])
        refine wpAnyJ_done (by kernel_rfl) ?_ _
      have hg9s : g8 < wr.heap.size := Cells.lt KG.out
      have kx : Cells (wq7.setCell ⟨g8, 11, none⟩ (.int .i64 (now + tv))) g8 #[.int .u8 q.x.p, .int .u32 q.x.si, .int .u16 q.x.sp, .int .u32 q.x.di, .int .u16 q.x.dp, .int .u8 q.x.p, .int .u32 q.di, .int .u16 q.dp, .int .u32 q.x.si, .int .u16 q.x.sp, .int .i64 q.st, .int .i64 (now + tv), .slice A2 kk c2] 51 := Cells.like (Cells.set_ (Cells.below hS0 KG.out) 11 (.int .i64 (now + tv))) (by simp)
      have lx : Below w.heap.size w (wq7.setCell ⟨g8, 11, none⟩ (.int .i64 (now + tv))) := Below.setCell (bstep LWR.out hS0) (by show w.heap.size ≤ g8; omega) _
      have k1x := Cells.other (Cells.below hS0 K1.out) (by omega : w.heap.size + 1 ≠ g8) 11 (.int .i64 (now + tv))
      have owx := Own.set (OW.out.below hS0) g8 11 (.int .i64 (now + tv)) (fun e => by have := UP.out _ e; omega)
      clear y9 f9 bb s14 qk0_0 qk0_1 qk0_2 qk0_3 qk0_4 qk0_5 qk0_6 qk0_7 qk0_8 qk0_9
      have KX := hide kx; have LX := hide lx; have K1X := hide k1x; have OWX := hide owx
      clear kx lx k1x owx hS0 sq bq4 KG K1 LWR OW C4 C7
      generalize (wq7.setCell ⟨g8, 11, none⟩ (.int .i64 (now + tv))) = wx at *
      have ck := fun W => d_eMay W ENT A2 kk c2 (by rw [HENT.out]; exact HLEN.out.symm) (by omega)
      rw [HENT.out] at ck
      simp only at ck
      rw [← HENT.out] at ck
      have CK := hide ck
      clear ck
      go_upto_region 14 with fail
      refine wp_region_lit ?_
      refine wpList_load_all rfl 51 (.tmp 8) rfl KX.out (by rfl) _ Tryd.underlying51 rfl (by kernel_rfl) ?_
      obtain ⟨me, hme⟩ : ∃ me, entMay ENT = me := ⟨_, rfl⟩
      have CK2 := CK.out
      rw [hme] at CK2
      have hrv := HRW.out
      rw [hme] at hrv
      clear CK hme HRW
      have CK := hide CK2; have HRX := hide hrv
      clear CK2 hrv
      cases me
      · have er : RV = (zeroE, 2) := HRX.out
        clear HRX
        subst er
        go_upto_region 15 with (go_at_call 20; (with_reducible refine (CK.out _).mono ?_); rintro e wc ⟨rfl, bc⟩)
        have HZ := hide (Cells.below bc K1X.out); have LW := hide (bstep LX.out bc)
        clear bc KX K1X LX OWX CK
        go_upto_region 15 with fail
        refine wp_region_lit ?_
        refine wpList_plain rfl fun K hK => ?_; go_simp; refine hK _ _ ?_; clear hK K
        refine wpList_store_all rfl 51 (.tmp 6) (.tmp 98) rfl HZ.out (by rfl) (by rfl) (by kernel_rfl) rfl (by simp [Value.oneCell']) ?_
        intro W5 r5 o5 z5
        go_wp2_with fail
        (try simp only [Exit.inBlock, Exit.then])
        refine bodyPost_ret (res_cell_tmp Tryd.results9 r5 (by rfl) (by rfl) _ Tryd.underlying51 rfl (by kernel_rfl)) rfl ?_
        exact ⟨.slice none 0 0, rfl, RowK.Own.nil _, (fun g e => by cases e), LW.out.trans (o5.below (fun j e => by omega) LW.out.size)⟩
      · have hrv := HRX.out
        rw [if_neg (by decide), HENT.out] at hrv
        clear HRX
        subst hrv
        go_upto_region 16 with (go_at_call 20; (with_reducible refine (CK.out _).mono ?_); rintro e wc ⟨rfl, bc⟩)
        have KC := hide (Cells.below bc KX.out); have HZ := hide (Cells.below bc K1X.out); have LW := hide (bstep LX.out bc); have OC := hide (OWX.out.below bc)
        clear bc KX K1X LX OWX CK
        refine wp_region_lit ?_
        refine wpList_load_all rfl 51 (.tmp 8) rfl KC.out (by rfl) _ Tryd.underlying51 rfl (by kernel_rfl) ?_
        (try simp only [Act.put, List.setIfInBounds_toArray, List.set_cons_zero, List.set_cons_succ])
        refine wpList_store_all rfl 51 (.tmp 6) (.tmp 99) rfl (c' := #[.int .u8 q.x.p, .int .u32 q.x.si, .int .u16 q.x.sp, .int .u32 q.x.di, .int .u16 q.x.dp, .int .u8 q.x.p, .int .u32 q.di, .int .u16 q.dp, .int .u32 q.x.si, .int .u16 q.x.sp, .int .i64 q.st, .int .i64 (now + tv), .slice A2 kk c2]) HZ.out (by rfl) (by rfl) (by kernel_rfl) rfl (by simp [Value.oneCell']) ?_
        intro W5 r5 o5 z5
        go_wp2_with fail
        (try simp only [Exit.inBlock, Exit.then])
        refine bodyPost_ret (res_cell_tmp Tryd.results9 r5 (by rfl) (by rfl) _ Tryd.underlying51 rfl (by kernel_rfl)) rfl ?_
        exact ⟨_, rfl, Own.other OC.out o5 (fun e => by have := UP.out _ e; omega), (fun j e => by have := UP.out _ e; omega), LW.out.trans (o5.below (fun j e => by omega) LW.out.size)⟩
end Go.Proofs.YtilfcikhipadpaaDoor
end

section
/- The document's Make (porterref20): a plan with a source. -/
set_option linter.unusedVariables false
set_option linter.unusedSimpArgs false
namespace Go.Proofs.YtilfcikhipadpaaDoor
open Go.RowKit Go.Lib
attribute [local go_sem] Oper.semAt_some envL lookV

theorem Grow.turnc {α : Type} {K : RowK α} {wq W W' : World} {g : Nat} {f f' : Value → Array Value} {T : TypeId} {l : List α} {V : Value} (h : Grow K wq g f T l V W) (hc : Cells W' g (f' V) T) (k : Only (fun j => j = g) W W') : Grow K wq g f' T l V W' :=
  ⟨hc, Own.other h.own k (fun e => Nat.lt_irrefl _ (h.up _ e)), h.up, h.b.trans (k.below (fun j e => by omega) (Nat.le_of_lt (Cells.lt h.c)))⟩
theorem Grow.quietc {α : Type} {K : RowK α} {wq W W' : World} {g : Nat} {f : Value → Array Value} {T : TypeId} {l : List α} {V : Value} (h : Grow K wq g f T l V W) (k : Below W.heap.size W W') : Grow K wq g f T l V W' :=
  ⟨Cells.below k h.c, h.own.below k, h.up, h.b.trans (k.mono (Nat.le_of_lt (Cells.lt h.c)))⟩
set_option maxHeartbeats 16000000 in
set_option maxRecDepth 100000 in
theorem d_Make_c (w : World) (q : Pln) (A Ao : Option Addr) (n c co : Nat) (os : List Pt) (now : Int) (hn : n = q.ws.length) (hA : dwantK.Has w A q.ws) (hno : n = os.length) (hO : pointK.Has w Ao os) (hn6 : n ≤ 1000) (hc : n ≤ c) (hco : n ≤ co) (n0 : 0 ≤ now) (n1 : now ≤ 1099511627776) (hs : q.src = true) :
    Calls Tryd.prog 9 #[.agg #[.int .u8 q.x.p, .int .u32 q.x.si, .int .u16 q.x.sp, .int .u32 q.x.di, .int .u16 q.x.dp, .int .u32 q.di, .int .u16 q.dp, .bool true, .int .i64 q.st, .slice A n c], .slice Ao n co, .int .i64 now] w (Made dholdK w (makeV q os now)) := by
  obtain ⟨o0, ho0⟩ : ∃ o0 : Pt, o0 = os.getD 0 ⟨0, 0⟩ := ⟨_, rfl⟩
  obtain ⟨dA, hdA⟩ : ∃ dA : Nat → Int, dA = fun k => if 0 < k then o0.a else q.x.si := ⟨_, rfl⟩
  obtain ⟨dP, hdP⟩ : ∃ dP : Nat → Int, dP = fun k => if 0 < k then o0.p else q.x.sp := ⟨_, rfl⟩
  have HO0 := hide ho0
  have DA0 := hide (show dA 0 = q.x.si by rw [hdA]; rfl); have DP0 := hide (show dP 0 = q.x.sp by rw [hdP]; rfl)
  have DA1 := hide (show ∀ k, dA (k + 1) = o0.a by intro k; rw [hdA]; simp); have DP1 := hide (show ∀ k, dP (k + 1) = o0.p by intro k; rw [hdP]; simp)
  clear ho0
  have hent : entOf q os now = ⟨q.x, ⟨q.x.p, q.di, q.dp, (dA n), (dP n)⟩, q.st, now + timeV (flowV q.x.p) q.st, holdsL q.ws os⟩ := by
    unfold entOf srcOf
    rw [hs]
    rw [hdA, hdP]
    cases os with
    | nil => rw [hno]; rfl
    | cons y t => rw [hno, HO0.out]; rfl
  have hmk : makeV q os now = if fitsL q.ws os = false then (zeroE, 2) else if entMay (entOf q os now) = false then (zeroE, 2) else (entOf q os now, 0) := by
    unfold makeV
    rw [if_neg (by omega)]
  rw [hent] at hmk
  clear hent
  have hlen : (holdsL q.ws os).length = n := by rw [holdsL_len _ _ (by omega)]; omega
  obtain ⟨tv, htv⟩ : ∃ tv, timeV (flowV q.x.p) q.st = tv := ⟨_, rfl⟩
  have htb : 0 ≤ tv ∧ tv ≤ 7440 := by rw [← htv]; exact timeV_bd _ _
  rw [htv] at hmk
  obtain ⟨ENT, hENT⟩ : ∃ ENT : Ent, ENT = ⟨q.x, ⟨q.x.p, q.di, q.dp, (dA n), (dP n)⟩, q.st, now + tv, holdsL q.ws os⟩ := ⟨_, rfl⟩
  rw [← hENT] at hmk
  obtain ⟨RV, hRV⟩ : ∃ RV, makeV q os now = RV := ⟨_, rfl⟩
  rw [hRV]
  rw [hRV] at hmk
  have HRV := hide hmk
  clear hmk hRV
  have HN := hide hn; have HNO := hide hno; have HA := hide hA; have HO := hide hO; have HLEN := hide hlen; have HTV := hide htv; have HTB := hide htb; have HENT := hide hENT
  have u0 : ¬ now < 0 := by omega
  have u1 : ¬ 1099511627776 < now := by omega
  have N0 := hide n0; have N1 := hide n1
  have hnz : (n : Int) ≤ 1000 := by omega
  clear hn hno hA hO hn6 hlen htv htb hENT n0 n1 hs hdA hdP
  go_enter Tryd.func9, Tryd.ntmps9
  have d0 := Cells.new w #[.int .u8 q.x.p, .int .u32 q.x.si, .int .u16 q.x.sp, .int .u32 q.x.di, .int .u16 q.x.dp, .int .u32 q.di, .int .u16 q.dp, .bool true, .int .i64 q.st, .slice A n c] 36
  replace d0 := Cells.below (fresh_below (w.alloc (.cells #[.int .u8 q.x.p, .int .u32 q.x.si, .int .u16 q.x.sp, .int .u32 q.x.di, .int .u16 q.x.dp, .int .u32 q.di, .int .u16 q.dp, .bool true, .int .i64 q.st, .slice A n c] 36)) (.cells #[.int .u8 0, .int .u32 0, .int .u16 0, .int .u32 0, .int .u16 0, .int .u8 0, .int .u32 0, .int .u16 0, .int .u32 0, .int .u16 0, .int .i64 0, .int .i64 0, .slice none 0 0] 51)) d0
  have d1 := Cells.new (w.alloc (.cells #[.int .u8 q.x.p, .int .u32 q.x.si, .int .u16 q.x.sp, .int .u32 q.x.di, .int .u16 q.x.dp, .int .u32 q.di, .int .u16 q.dp, .bool true, .int .i64 q.st, .slice A n c] 36)) #[.int .u8 0, .int .u32 0, .int .u16 0, .int .u32 0, .int .u16 0, .int .u8 0, .int .u32 0, .int .u16 0, .int .u32 0, .int .u16 0, .int .i64 0, .int .i64 0, .slice none 0 0] 51
  have l0 : Below w.heap.size w ((w.alloc (.cells #[.int .u8 q.x.p, .int .u32 q.x.si, .int .u16 q.x.sp, .int .u32 q.x.di, .int .u16 q.x.dp, .int .u32 q.di, .int .u16 q.dp, .bool true, .int .i64 q.st, .slice A n c] 36)).alloc (.cells #[.int .u8 0, .int .u32 0, .int .u16 0, .int .u32 0, .int .u16 0, .int .u8 0, .int .u32 0, .int .u16 0, .int .u32 0, .int .u16 0, .int .i64 0, .int .i64 0, .slice none 0 0] 51)) := (bstep (fresh_below _ _) (fresh_below _ _))
  simp only [World.size_alloc] at d1
  have L0 := hide l0; have D0 := hide d0; have D1 := hide d1
  clear l0 d0 d1
  go_upto_region 1 with fail
  have l0 := L0.out; have d0 := D0.out; have d1 := D1.out
  clear L0 D0 D1
  generalize ((w.alloc (.cells #[.int .u8 q.x.p, .int .u32 q.x.si, .int .u16 q.x.sp, .int .u32 q.x.di, .int .u16 q.x.dp, .int .u32 q.di, .int .u16 q.dp, .bool true, .int .i64 q.st, .slice A n c] 36)).alloc (.cells #[.int .u8 0, .int .u32 0, .int .u16 0, .int .u32 0, .int .u16 0, .int .u8 0, .int .u32 0, .int .u16 0, .int .u32 0, .int .u16 0, .int .i64 0, .int .i64 0, .slice none 0 0] 51)) = w1 at *
  have qd0_0 : ∀ W', Below w1.heap.size w1 W' → World.cell? W' ⟨w.heap.size, 0, none⟩ = some (.int .u8 q.x.p) := fun W' h => Cells.at_ (Cells.below h d0) 0
  have qd0_1 : ∀ W', Below w1.heap.size w1 W' → World.cell? W' ⟨w.heap.size, 1, none⟩ = some (.int .u32 q.x.si) := fun W' h => Cells.at_ (Cells.below h d0) 1
  have qd0_2 : ∀ W', Below w1.heap.size w1 W' → World.cell? W' ⟨w.heap.size, 2, none⟩ = some (.int .u16 q.x.sp) := fun W' h => Cells.at_ (Cells.below h d0) 2
  have qd0_3 : ∀ W', Below w1.heap.size w1 W' → World.cell? W' ⟨w.heap.size, 3, none⟩ = some (.int .u32 q.x.di) := fun W' h => Cells.at_ (Cells.below h d0) 3
  have qd0_4 : ∀ W', Below w1.heap.size w1 W' → World.cell? W' ⟨w.heap.size, 4, none⟩ = some (.int .u16 q.x.dp) := fun W' h => Cells.at_ (Cells.below h d0) 4
  have qd0_5 : ∀ W', Below w1.heap.size w1 W' → World.cell? W' ⟨w.heap.size, 5, none⟩ = some (.int .u32 q.di) := fun W' h => Cells.at_ (Cells.below h d0) 5
  have qd0_6 : ∀ W', Below w1.heap.size w1 W' → World.cell? W' ⟨w.heap.size, 6, none⟩ = some (.int .u16 q.dp) := fun W' h => Cells.at_ (Cells.below h d0) 6
  have qd0_7 : ∀ W', Below w1.heap.size w1 W' → World.cell? W' ⟨w.heap.size, 7, none⟩ = some (.bool true) := fun W' h => Cells.at_ (Cells.below h d0) 7
  have qd0_8 : ∀ W', Below w1.heap.size w1 W' → World.cell? W' ⟨w.heap.size, 8, none⟩ = some (.int .i64 q.st) := fun W' h => Cells.at_ (Cells.below h d0) 8
  have qd0_9 : ∀ W', Below w1.heap.size w1 W' → World.cell? W' ⟨w.heap.size, 9, none⟩ = some (.slice A n c) := fun W' h => Cells.at_ (Cells.below h d0) 9
  have qd1_0 : ∀ W', Below w1.heap.size w1 W' → World.cell? W' ⟨w.heap.size + 1, 0, none⟩ = some (.int .u8 0) := fun W' h => Cells.at_ (Cells.below h d1) 0
  have qd1_1 : ∀ W', Below w1.heap.size w1 W' → World.cell? W' ⟨w.heap.size + 1, 1, none⟩ = some (.int .u32 0) := fun W' h => Cells.at_ (Cells.below h d1) 1
  have qd1_2 : ∀ W', Below w1.heap.size w1 W' → World.cell? W' ⟨w.heap.size + 1, 2, none⟩ = some (.int .u16 0) := fun W' h => Cells.at_ (Cells.below h d1) 2
  have qd1_3 : ∀ W', Below w1.heap.size w1 W' → World.cell? W' ⟨w.heap.size + 1, 3, none⟩ = some (.int .u32 0) := fun W' h => Cells.at_ (Cells.below h d1) 3
  have qd1_4 : ∀ W', Below w1.heap.size w1 W' → World.cell? W' ⟨w.heap.size + 1, 4, none⟩ = some (.int .u16 0) := fun W' h => Cells.at_ (Cells.below h d1) 4
  have qd1_5 : ∀ W', Below w1.heap.size w1 W' → World.cell? W' ⟨w.heap.size + 1, 5, none⟩ = some (.int .u8 0) := fun W' h => Cells.at_ (Cells.below h d1) 5
  have qd1_6 : ∀ W', Below w1.heap.size w1 W' → World.cell? W' ⟨w.heap.size + 1, 6, none⟩ = some (.int .u32 0) := fun W' h => Cells.at_ (Cells.below h d1) 6
  have qd1_7 : ∀ W', Below w1.heap.size w1 W' → World.cell? W' ⟨w.heap.size + 1, 7, none⟩ = some (.int .u16 0) := fun W' h => Cells.at_ (Cells.below h d1) 7
  have qd1_8 : ∀ W', Below w1.heap.size w1 W' → World.cell? W' ⟨w.heap.size + 1, 8, none⟩ = some (.int .u32 0) := fun W' h => Cells.at_ (Cells.below h d1) 8
  have qd1_9 : ∀ W', Below w1.heap.size w1 W' → World.cell? W' ⟨w.heap.size + 1, 9, none⟩ = some (.int .u16 0) := fun W' h => Cells.at_ (Cells.below h d1) 9
  have qd1_10 : ∀ W', Below w1.heap.size w1 W' → World.cell? W' ⟨w.heap.size + 1, 10, none⟩ = some (.int .i64 0) := fun W' h => Cells.at_ (Cells.below h d1) 10
  have qd1_11 : ∀ W', Below w1.heap.size w1 W' → World.cell? W' ⟨w.heap.size + 1, 11, none⟩ = some (.int .i64 0) := fun W' h => Cells.at_ (Cells.below h d1) 11
  have qd1_12 : ∀ W', Below w1.heap.size w1 W' → World.cell? W' ⟨w.heap.size + 1, 12, none⟩ = some (.slice none 0 0) := fun W' h => Cells.at_ (Cells.below h d1) 12
  have bb : Below w1.heap.size w1 w1 := Below.refl _ _
  have L0 := hide l0; have D0 := hide d0; have D1 := hide d1
  clear l0 d0 d1
  go_upto_region 4 with fail
  clear u0 u1
  have nn := Cells.new w1 #[.int .u8 q.x.p, .int .u32 q.x.si, .int .u16 q.x.sp, .int .u32 q.x.di, .int .u16 q.x.dp, .int .u8 0, .int .u32 0, .int .u16 0, .int .u32 0, .int .u16 0, .int .i64 q.st, .int .i64 0, .slice none 0 0] 51
  have bn := fresh_below w1 (.cells #[.int .u8 q.x.p, .int .u32 q.x.si, .int .u16 q.x.sp, .int .u32 q.x.di, .int .u16 q.x.dp, .int .u8 0, .int .u32 0, .int .u16 0, .int .u32 0, .int .u16 0, .int .i64 q.st, .int .i64 0, .slice none 0 0] 51)
  have hg8 : w.heap.size + 1 < w1.heap.size := Cells.lt D1.out
  replace D0 := hide (Cells.below bn D0.out); replace D1 := hide (Cells.below bn D1.out); replace L0 := hide (bstep L0.out bn)
  clear bn bb qd0_0 qd0_1 qd0_2 qd0_3 qd0_4 qd0_5 qd0_6 qd0_7 qd0_8 qd0_9 qd1_0 qd1_1 qd1_2 qd1_3 qd1_4 qd1_5 qd1_6 qd1_7 qd1_8 qd1_9 qd1_10 qd1_11 qd1_12
  generalize w1.heap.size = g8 at nn hg8 ⊢
  generalize (w1.alloc (.cells #[.int .u8 q.x.p, .int .u32 q.x.si, .int .u16 q.x.sp, .int .u32 q.x.di, .int .u16 q.x.dp, .int .u8 0, .int .u32 0, .int .u16 0, .int .u32 0, .int .u16 0, .int .i64 q.st, .int .i64 0, .slice none 0 0] 51)) = w4 at *
  have D8 := hide nn; have HG8 := hide hg8
  clear nn hg8
  have d0 := D0.out; have d8 := D8.out
  have qd0_0 : ∀ W', Below w4.heap.size w4 W' → World.cell? W' ⟨w.heap.size, 0, none⟩ = some (.int .u8 q.x.p) := fun W' h => Cells.at_ (Cells.below h d0) 0
  have qd0_1 : ∀ W', Below w4.heap.size w4 W' → World.cell? W' ⟨w.heap.size, 1, none⟩ = some (.int .u32 q.x.si) := fun W' h => Cells.at_ (Cells.below h d0) 1
  have qd0_2 : ∀ W', Below w4.heap.size w4 W' → World.cell? W' ⟨w.heap.size, 2, none⟩ = some (.int .u16 q.x.sp) := fun W' h => Cells.at_ (Cells.below h d0) 2
  have qd0_3 : ∀ W', Below w4.heap.size w4 W' → World.cell? W' ⟨w.heap.size, 3, none⟩ = some (.int .u32 q.x.di) := fun W' h => Cells.at_ (Cells.below h d0) 3
  have qd0_4 : ∀ W', Below w4.heap.size w4 W' → World.cell? W' ⟨w.heap.size, 4, none⟩ = some (.int .u16 q.x.dp) := fun W' h => Cells.at_ (Cells.below h d0) 4
  have qd0_5 : ∀ W', Below w4.heap.size w4 W' → World.cell? W' ⟨w.heap.size, 5, none⟩ = some (.int .u32 q.di) := fun W' h => Cells.at_ (Cells.below h d0) 5
  have qd0_6 : ∀ W', Below w4.heap.size w4 W' → World.cell? W' ⟨w.heap.size, 6, none⟩ = some (.int .u16 q.dp) := fun W' h => Cells.at_ (Cells.below h d0) 6
  have qd0_7 : ∀ W', Below w4.heap.size w4 W' → World.cell? W' ⟨w.heap.size, 7, none⟩ = some (.bool true) := fun W' h => Cells.at_ (Cells.below h d0) 7
  have qd0_8 : ∀ W', Below w4.heap.size w4 W' → World.cell? W' ⟨w.heap.size, 8, none⟩ = some (.int .i64 q.st) := fun W' h => Cells.at_ (Cells.below h d0) 8
  have qd0_9 : ∀ W', Below w4.heap.size w4 W' → World.cell? W' ⟨w.heap.size, 9, none⟩ = some (.slice A n c) := fun W' h => Cells.at_ (Cells.below h d0) 9
  have bb : Below w4.heap.size w4 w4 := Below.refl _ _
  have fz : ∀ W' i, Below w4.heap.size w4 W' → World.frozen? W' ⟨g8, i, none⟩ = false := fun W' i h => Cells.free (Cells.below h d8) i
  have qd8_0 : ∀ W', Below w4.heap.size w4 W' → World.cell? W' ⟨g8, 0, none⟩ = some (.int .u8 q.x.p) := fun W' h => Cells.at_ (Cells.below h d8) 0
  have qd8_1 : ∀ W', Below w4.heap.size w4 W' → World.cell? W' ⟨g8, 1, none⟩ = some (.int .u32 q.x.si) := fun W' h => Cells.at_ (Cells.below h d8) 1
  have qd8_2 : ∀ W', Below w4.heap.size w4 W' → World.cell? W' ⟨g8, 2, none⟩ = some (.int .u16 q.x.sp) := fun W' h => Cells.at_ (Cells.below h d8) 2
  have qd8_3 : ∀ W', Below w4.heap.size w4 W' → World.cell? W' ⟨g8, 3, none⟩ = some (.int .u32 q.x.di) := fun W' h => Cells.at_ (Cells.below h d8) 3
  have qd8_4 : ∀ W', Below w4.heap.size w4 W' → World.cell? W' ⟨g8, 4, none⟩ = some (.int .u16 q.x.dp) := fun W' h => Cells.at_ (Cells.below h d8) 4
  have qd8_5 : ∀ W', Below w4.heap.size w4 W' → World.cell? W' ⟨g8, 5, none⟩ = some (.int .u8 0) := fun W' h => Cells.at_ (Cells.below h d8) 5
  have qd8_6 : ∀ W', Below w4.heap.size w4 W' → World.cell? W' ⟨g8, 6, none⟩ = some (.int .u32 0) := fun W' h => Cells.at_ (Cells.below h d8) 6
  have qd8_7 : ∀ W', Below w4.heap.size w4 W' → World.cell? W' ⟨g8, 7, none⟩ = some (.int .u16 0) := fun W' h => Cells.at_ (Cells.below h d8) 7
  have qd8_8 : ∀ W', Below w4.heap.size w4 W' → World.cell? W' ⟨g8, 8, none⟩ = some (.int .u32 0) := fun W' h => Cells.at_ (Cells.below h d8) 8
  have qd8_9 : ∀ W', Below w4.heap.size w4 W' → World.cell? W' ⟨g8, 9, none⟩ = some (.int .u16 0) := fun W' h => Cells.at_ (Cells.below h d8) 9
  have qd8_10 : ∀ W', Below w4.heap.size w4 W' → World.cell? W' ⟨g8, 10, none⟩ = some (.int .i64 q.st) := fun W' h => Cells.at_ (Cells.below h d8) 10
  have qd8_11 : ∀ W', Below w4.heap.size w4 W' → World.cell? W' ⟨g8, 11, none⟩ = some (.int .i64 0) := fun W' h => Cells.at_ (Cells.below h d8) 11
  have qd8_12 : ∀ W', Below w4.heap.size w4 W' → World.cell? W' ⟨g8, 12, none⟩ = some (.slice none 0 0) := fun W' h => Cells.at_ (Cells.below h d8) 12
  go_upto_region 5 with fail
  have hg8 := HG8.out
  have r8 : Cells (((((w4.setCell ⟨g8, 5, none⟩ (.int .u8 q.x.p)).setCell ⟨g8, 6, none⟩ (.int .u32 q.di)).setCell ⟨g8, 7, none⟩ (.int .u16 q.dp)).setCell ⟨g8, 8, none⟩ (.int .u32 q.x.si)).setCell ⟨g8, 9, none⟩ (.int .u16 q.x.sp)) g8 #[.int .u8 q.x.p, .int .u32 q.x.si, .int .u16 q.x.sp, .int .u32 q.x.di, .int .u16 q.x.dp, .int .u8 q.x.p, .int .u32 q.di, .int .u16 q.dp, .int .u32 q.x.si, .int .u16 q.x.sp, .int .i64 q.st, .int .i64 0, .slice none 0 0] 51 := Cells.like (Cells.set_ (Cells.set_ (Cells.set_ (Cells.set_ (Cells.set_ D8.out 5 (.int .u8 q.x.p)) 6 (.int .u32 q.di)) 7 (.int .u16 q.dp)) 8 (.int .u32 q.x.si)) 9 (.int .u16 q.x.sp)) (by simp)
  have o8 : Only (fun j => j = g8) w4 (((((w4.setCell ⟨g8, 5, none⟩ (.int .u8 q.x.p)).setCell ⟨g8, 6, none⟩ (.int .u32 q.di)).setCell ⟨g8, 7, none⟩ (.int .u16 q.dp)).setCell ⟨g8, 8, none⟩ (.int .u32 q.x.si)).setCell ⟨g8, 9, none⟩ (.int .u16 q.x.sp)) := by repeat' (first | with_reducible exact Only.refl _ _ | with_reducible refine Only.setAt ?_ _ _ (Or.inl rfl))
  replace D0 := hide (Cells.only D0.out o8 (by omega)); replace D1 := hide (Cells.only D1.out o8 (by omega)); replace L0 := hide (L0.out.trans (o8.below (fun j e => by omega) L0.out.size))
  have GR0 := hide (Grow.start (K := dholdK) (f := fun v => #[.int .u8 q.x.p, .int .u32 q.x.si, .int .u16 q.x.sp, .int .u32 q.x.di, .int .u16 q.x.dp, .int .u8 q.x.p, .int .u32 q.di, .int .u16 q.dp, .int .u32 (dA 0), .int .u16 (dP 0), .int .i64 q.st, .int .i64 0, v]) (show Cells (((((w4.setCell ⟨g8, 5, none⟩ (.int .u8 q.x.p)).setCell ⟨g8, 6, none⟩ (.int .u32 q.di)).setCell ⟨g8, 7, none⟩ (.int .u16 q.dp)).setCell ⟨g8, 8, none⟩ (.int .u32 q.x.si)).setCell ⟨g8, 9, none⟩ (.int .u16 q.x.sp)) g8 #[.int .u8 q.x.p, .int .u32 q.x.si, .int .u16 q.x.sp, .int .u32 q.x.di, .int .u16 q.x.dp, .int .u8 q.x.p, .int .u32 q.di, .int .u16 q.dp, .int .u32 (dA 0), .int .u16 (dP 0), .int .i64 q.st, .int .i64 0, .slice none 0 0] 51 from by rw [DA0.out, DP0.out]; exact r8))
  clear d0 d8 bb fz qd0_0 qd0_1 qd0_2 qd0_3 qd0_4 qd0_5 qd0_6 qd0_7 qd0_8 qd0_9 qd8_0 qd8_1 qd8_2 qd8_3 qd8_4 qd8_5 qd8_6 qd8_7 qd8_8 qd8_9 qd8_10 qd8_11 qd8_12 r8 o8 D8 hg8
  generalize (((((w4.setCell ⟨g8, 5, none⟩ (.int .u8 q.x.p)).setCell ⟨g8, 6, none⟩ (.int .u32 q.di)).setCell ⟨g8, 7, none⟩ (.int .u16 q.dp)).setCell ⟨g8, 8, none⟩ (.int .u32 q.x.si)).setCell ⟨g8, 9, none⟩ (.int .u16 q.x.sp)) = wq at *
  go_wp2_with fail
  go_loopg [9] n (fun gg s9 wr => ∃ kk : Nat, kk ≤ n ∧ n - kk ≤ gg ∧ s9 = .int .i64 kk ∧ Aside (∃ V, Grow dholdK wq g8 (fun v => #[.int .u8 q.x.p, .int .u32 q.x.si, .int .u16 q.x.sp, .int .u32 q.x.di, .int .u16 q.x.dp, .int .u8 q.x.p, .int .u32 q.di, .int .u16 q.dp, .int .u32 (dA kk), .int .u16 (dP kk), .int .i64 q.st, .int .i64 0, v]) 51 (holdsL (q.ws.take kk) (os.take kk)) V wr) ∧ Aside (fitsL (q.ws.take kk) (os.take kk) = true))
  case atStart => exact ⟨0, Nat.zero_le _, by omega, rfl, (show Aside _ from ⟨_, GR0.out⟩), (show Aside _ from rfl)⟩
  case round =>
    clear GR0
    obtain ⟨kk, hkk, hg, rfl, GG, FT⟩ := hrel
    obtain ⟨V, gr⟩ := GG.out
    clear GG
    have hg8 := HG8.out
    have k0 : Cells wr w.heap.size #[.int .u8 q.x.p, .int .u32 q.x.si, .int .u16 q.x.sp, .int .u32 q.x.di, .int .u16 q.x.dp, .int .u32 q.di, .int .u16 q.dp, .bool true, .int .i64 q.st, .slice A n c] 36 := (gr.b.block w.heap.size (by omega)).trans D0.out
    have k1 : Cells wr (w.heap.size + 1) #[.int .u8 0, .int .u32 0, .int .u16 0, .int .u32 0, .int .u16 0, .int .u8 0, .int .u32 0, .int .u16 0, .int .u32 0, .int .u16 0, .int .i64 0, .int .i64 0, .slice none 0 0] 51 := (gr.b.block (w.heap.size + 1) (by omega)).trans D1.out
    have lw : Below w.heap.size w wr := L0.out.trans (gr.b.mono (by omega))
    have kg := gr.c
    by_cases hlt : kk < n
    · have hltz : (kk : Int) < (n : Int) := by omega
      have hl : kk < q.ws.length := by have := HN.out; omega
      have hlo : kk < os.length := by have := HNO.out; omega
      obtain ⟨F, hF⟩ : ∃ F : Nat → Prop, F = fun j => V.ownBlock = some j := ⟨_, rfl⟩
      have hFg : ∀ j, F j → g8 < j := fun j e => gr.up j (by rw [hF] at e; exact e)
      obtain ⟨g, o, hAe, hg0, hrow0⟩ := HA.out.at_ hl
      obtain ⟨gp, op, hOe, hgp0, hrowp0⟩ := HO.out.at_ hlo
      obtain ⟨r, hr⟩ : ∃ r, r = q.ws[kk] := ⟨_, rfl⟩
      obtain ⟨t, ht⟩ : ∃ t, t = os[kk] := ⟨_, rfl⟩
      rw [← hr] at hrow0
      rw [← ht] at hrowp0
      have HR := hide hr; have HTT := hide ht
      clear hr ht
      subst hAe hOe
      have HB := hide (show g < w.heap.size ∧ ¬ F g ∧ gp < w.heap.size ∧ ¬ F gp from ⟨hg0, fun e => by have := hFg g e; omega, hgp0, fun e => by have := hFg gp e; omega⟩)
      have HRW0 := hide hrow0; have HRP0 := hide hrowp0; have HFG := hide hFg
      have z0 : ∀ W', Below wr.heap.size wr W' → World.cell? W' ⟨g, o + kk * 8, none⟩ = some (.bool r.fx) := fun W' hW => hrow0 0 _ rfl W' (bstep lw hW)
      have z1 : ∀ W', Below wr.heap.size wr W' → World.cell? W' ⟨g, o + kk * 8 + 1, none⟩ = some (.int .u32 r.ii) := fun W' hW => hrow0 1 _ rfl W' (bstep lw hW)
      have z2 : ∀ W', Below wr.heap.size wr W' → World.cell? W' ⟨g, o + kk * 8 + 2, none⟩ = some (.int .u16 r.ip) := fun W' hW => hrow0 2 _ rfl W' (bstep lw hW)
      have z3 : ∀ W', Below wr.heap.size wr W' → World.cell? W' ⟨g, o + kk * 8 + 3, none⟩ = some (.int .u32 r.oi) := fun W' hW => hrow0 3 _ rfl W' (bstep lw hW)
      have z4 : ∀ W', Below wr.heap.size wr W' → World.cell? W' ⟨g, o + kk * 8 + 4, none⟩ = some (.int .u16 r.op) := fun W' hW => hrow0 4 _ rfl W' (bstep lw hW)
      have z5 : ∀ W', Below wr.heap.size wr W' → World.cell? W' ⟨g, o + kk * 8 + 5, none⟩ = some (.int .u32 r.a) := fun W' hW => hrow0 5 _ rfl W' (bstep lw hW)
      have z6 : ∀ W', Below wr.heap.size wr W' → World.cell? W' ⟨g, o + kk * 8 + 6, none⟩ = some (.int .u16 r.f) := fun W' hW => hrow0 6 _ rfl W' (bstep lw hW)
      have z7 : ∀ W', Below wr.heap.size wr W' → World.cell? W' ⟨g, o + kk * 8 + 7, none⟩ = some (.int .u16 r.t) := fun W' hW => hrow0 7 _ rfl W' (bstep lw hW)
      have p0 : ∀ W', Below wr.heap.size wr W' → World.cell? W' ⟨gp, op + kk * 2, none⟩ = some (.int .u32 t.a) := fun W' hW => hrowp0 0 _ rfl W' (bstep lw hW)
      have p1 : ∀ W', Below wr.heap.size wr W' → World.cell? W' ⟨gp, op + kk * 2 + 1, none⟩ = some (.int .u16 t.p) := fun W' hW => hrowp0 1 _ rfl W' (bstep lw hW)
      have qk0_9 : ∀ W', Below wr.heap.size wr W' → World.cell? W' ⟨w.heap.size, 9, none⟩ = some (.slice (some ⟨g, o, none⟩) n c) := fun W' h => Cells.at_ (Cells.below h k0) 9
      have bb : Below wr.heap.size wr wr := Below.refl _ _
      have GR := hide gr; have LW0 := hide lw; have HFE := hide hF; have K0 := hide k0; have K1 := hide k1
      have hkw : IntKind.i64.wrap ((kk : Int) + 1) = ((kk + 1 : Nat) : Int) := by rw [IntWalk.i64_in _ (by omega)]; omega
      have HLN := hide (show (holdsL (q.ws.take kk) (os.take kk) ++ [holdOf r t]).length = kk + 1 by rw [List.length_append, holdsL_len _ _ (by simp; omega), List.length_take, List.length_cons, List.length_nil]; omega)
      have hdk : decide ((kk : Int) < 0) = false := by rw [decide_eq_false_iff_not]; omega
      have cf := fun W => d_Fits W r t.a t.p
      obtain ⟨fv, hfv⟩ : ∃ fv, fitsV r t.a t.p = fv := ⟨_, rfl⟩
      rw [hfv] at cf
      have CF := hide cf; have HFV := hide hfv
      clear cf hfv gr lw hF hrow0 hrowp0 k0 k1 kg hFg hg0 hgp0
      go_upto_region 8 with fail
      have s8 : Below wr.heap.size wr wr.drew := Below.drew bb
      cases fv
      · skip
        focus
          refine wp_region_J [] (fun W => Below wr.heap.size wr W) (by kernel_rfl) (s8) (fun hS0 => ?_)
          obtain ⟨hG, hsel⟩ := okOps (md := .any) (ops := #[{ dst := some 46 , op := Go.Op.fieldAddr 36 ( Go.Operand.tmp 3 ) 4 , type := 0 , pos := "ref.go:112" , after := #[ ] , guard := none }, { dst := some 47 , op := Go.Op.load 34 ( Go.Operand.tmp 46 ) , type := 34 , pos := "ref.go:112" , after := #[ { on := 0 , ground := Go.Ground.data } ] , guard := none }, { dst := some 48 , op := Go.Op.move ( Go.Operand.tmp 9 ) , type := 3 , pos := "ref.go:112" , after := #[ ] , guard := none }, { dst := some 49 , op := Go.Op.indexAddr 34 ( Go.Operand.tmp 47 ) ( Go.Operand.tmp 48 ) , type := 0 , pos := "ref.go:112" , after := #[ { on := 1 , ground := Go.Ground.data } , { on := 2 , ground := Go.Ground.data } ] , guard := none }, { dst := some 50 , op := Go.Op.load 42 ( Go.Operand.tmp 49 ) , type := 42 , pos := "ref.go:112" , after := #[ { on := 3 , ground := Go.Ground.data } ] , guard := none }, { dst := some 51 , op := Go.Op.move ( Go.Operand.tmp 1 ) , type := 32 , pos := "ref.go:112" , after := #[ ] , guard := none }, { dst := some 52 , op := Go.Op.move ( Go.Operand.tmp 9 ) , type := 3 , pos := "ref.go:112" , after := #[ ] , guard := none }, { dst := some 53 , op := Go.Op.indexAddr 32 ( Go.Operand.tmp 51 ) ( Go.Operand.tmp 52 ) , type := 0 , pos := "ref.go:112" , after := #[ { on := 5 , ground := Go.Ground.data } , { on := 6 , ground := Go.Ground.data } ] , guard := none }, { dst := some 54 , op := Go.Op.load 26 ( Go.Operand.tmp 53 ) , type := 26 , pos := "ref.go:112" , after := #[ { on := 7 , ground := Go.Ground.data } ] , guard := none }, { dst := some 55 , op := Go.Op.call { callee := Go.Callee.value ( Go.Operand.func 7 ) , args := #[ Go.Operand.tmp 50 , Go.Operand.tmp 54 ] , argTypes := #[ 42 , 26 ] } , type := 4 , pos := "ref.go:112" , after := #[ { on := 4 , ground := Go.Ground.data } , { on := 8 , ground := Go.Ground.data } ] , guard := none }, { dst := some 56 , op := Go.Op.unOp Go.UnOp.not 4 ( Go.Operand.tmp 55 ) , type := 4 , pos := "ref.go:112" , after := #[ { on := 9 , ground := Go.Ground.data } ] , guard := none }]) (by kernel_rfl)
          refine wpAnyJ_takeG (i := 0) (oi := { dst := some 46 , op := Go.Op.fieldAddr 36 ( Go.Operand.tmp 3 ) 4 , type := 0 , pos := "ref.go:112" , after := #[ ] , guard := none }) (v := ?v0_1) hG hsel (by kernel_rfl) (by kernel_rfl) (by kernel_rfl) (by kernel_rfl) (fun _ _ _ h => h) (Or.inl (And.intro (by kernel_rfl) ?q0_1)) hS0 ?r0_1
          case q0_1 => intro w hx; refine run_env [3] [?a0_1_3] (by kernel_rfl) (by kernel_rfl) (⟨?e0_1_3, trivial⟩) ?h0_1; (case e0_1_3 => ((conv => lhs; whnf); (try exact rfl))); (case h0_1 => ((try dsimp only); (try simp only [envL, lookV, if_true, if_false]); (try go_simp); (try with_reducible rfl)))
          (try simp only [Act.put, List.setIfInBounds_toArray, List.set_cons_zero, List.set_cons_succ, List.getElem_toArray, List.getElem_cons_succ, List.getElem_cons_zero])
          refine wpAnyJ_takeG (i := 1) (oi := { dst := some 47 , op := Go.Op.load 34 ( Go.Operand.tmp 46 ) , type := 34 , pos := "ref.go:112" , after := #[ { on := 0 , ground := Go.Ground.data } ] , guard := none }) (v := ?v1_2) hG hsel (by kernel_rfl) (by kernel_rfl) (by kernel_rfl) (by kernel_rfl) (fun _ _ _ h => h) (Or.inl (And.intro (by kernel_rfl) ?q1_2)) hS0 ?r1_2
          case q1_2 => intro w hx; refine run_env [46] [?a1_2_46] (by kernel_rfl) (by kernel_rfl) (⟨?e1_2_46, trivial⟩) ?h1_2; (case e1_2_46 => ((conv => lhs; whnf); (try exact rfl))); (case h1_2 => ((try dsimp only); (try simp only [envL, lookV, if_true, if_false]); (try go_simp); (try with_reducible rfl)))
          (try simp only [Act.put, List.setIfInBounds_toArray, List.set_cons_zero, List.set_cons_succ, List.getElem_toArray, List.getElem_cons_succ, List.getElem_cons_zero])
          refine wpAnyJ_takeG (i := 2) (oi := { dst := some 48 , op := Go.Op.move ( Go.Operand.tmp 9 ) , type := 3 , pos := "ref.go:112" , after := #[ ] , guard := none }) (v := ?v2_3) hG hsel (by kernel_rfl) (by kernel_rfl) (by kernel_rfl) (by kernel_rfl) (fun _ _ _ h => h) (Or.inl (And.intro (by kernel_rfl) ?q2_3)) hS0 ?r2_3
          case q2_3 => intro w hx; refine run_env [9] [?a2_3_9] (by kernel_rfl) (by kernel_rfl) (⟨?e2_3_9, trivial⟩) ?h2_3; (case e2_3_9 => ((conv => lhs; whnf); (try exact rfl))); (case h2_3 => ((try dsimp only); (try simp only [envL, lookV, if_true, if_false]); (try go_simp); (try with_reducible rfl)))
          (try simp only [Act.put, List.setIfInBounds_toArray, List.set_cons_zero, List.set_cons_succ, List.getElem_toArray, List.getElem_cons_succ, List.getElem_cons_zero])
          refine wpAnyJ_takeG (i := 3) (oi := { dst := some 49 , op := Go.Op.indexAddr 34 ( Go.Operand.tmp 47 ) ( Go.Operand.tmp 48 ) , type := 0 , pos := "ref.go:112" , after := #[ { on := 1 , ground := Go.Ground.data } , { on := 2 , ground := Go.Ground.data } ] , guard := none }) (v := ?v3_4) hG hsel (by kernel_rfl) (by kernel_rfl) (by kernel_rfl) (by kernel_rfl) (fun _ _ _ h => h) (Or.inl (And.intro (by kernel_rfl) ?q3_4)) hS0 ?r3_4
          case q3_4 => intro w hx; refine run_env [47, 48] [?a3_4_47, ?a3_4_48] (by kernel_rfl) (by kernel_rfl) (⟨?e3_4_47, ?e3_4_48, trivial⟩) ?h3_4; (case e3_4_47 => ((conv => lhs; whnf); (try exact rfl))); (case e3_4_48 => ((conv => lhs; whnf); (try exact rfl))); (case h3_4 => ((try dsimp only); (try simp only [envL, lookV, if_true, if_false]); (try go_simp); (try with_reducible rfl)))
          (try simp only [Act.put, List.setIfInBounds_toArray, List.set_cons_zero, List.set_cons_succ, List.getElem_toArray, List.getElem_cons_succ, List.getElem_cons_zero])
          refine wpAnyJ_takeG (i := 4) (oi := { dst := some 50 , op := Go.Op.load 42 ( Go.Operand.tmp 49 ) , type := 42 , pos := "ref.go:112" , after := #[ { on := 3 , ground := Go.Ground.data } ] , guard := none }) (v := ?v4_5) hG hsel (by kernel_rfl) (by kernel_rfl) (by kernel_rfl) (by kernel_rfl) (fun _ _ _ h => h) (Or.inl (And.intro (by kernel_rfl) ?q4_5)) hS0 ?r4_5
          case q4_5 => intro w hx; refine run_env [49] [?a4_5_49] (by kernel_rfl) (by kernel_rfl) (⟨?e4_5_49, trivial⟩) ?h4_5; (case e4_5_49 => ((conv => lhs; whnf); (try exact rfl))); (case h4_5 => ((try dsimp only); (try simp only [envL, lookV, if_true, if_false]); (try go_simp); (try with_reducible rfl)))
          (try simp only [Act.put, List.setIfInBounds_toArray, List.set_cons_zero, List.set_cons_succ, List.getElem_toArray, List.getElem_cons_succ, List.getElem_cons_zero])
          refine wpAnyJ_takeG (i := 5) (oi := { dst := some 51 , op := Go.Op.move ( Go.Operand.tmp 1 ) , type := 32 , pos := "ref.go:112" , after := #[ ] , guard := none }) (v := ?v5_6) hG hsel (by kernel_rfl) (by kernel_rfl) (by kernel_rfl) (by kernel_rfl) (fun _ _ _ h => h) (Or.inl (And.intro (by kernel_rfl) ?q5_6)) hS0 ?r5_6
          case q5_6 => intro w hx; refine run_env [1] [?a5_6_1] (by kernel_rfl) (by kernel_rfl) (⟨?e5_6_1, trivial⟩) ?h5_6; (case e5_6_1 => ((conv => lhs; whnf); (try exact rfl))); (case h5_6 => ((try dsimp only); (try simp only [envL, lookV, if_true, if_false]); (try go_simp); (try with_reducible rfl)))
          (try simp only [Act.put, List.setIfInBounds_toArray, List.set_cons_zero, List.set_cons_succ, List.getElem_toArray, List.getElem_cons_succ, List.getElem_cons_zero])
          refine wpAnyJ_takeG (i := 6) (oi := { dst := some 52 , op := Go.Op.move ( Go.Operand.tmp 9 ) , type := 3 , pos := "ref.go:112" , after := #[ ] , guard := none }) (v := ?v6_7) hG hsel (by kernel_rfl) (by kernel_rfl) (by kernel_rfl) (by kernel_rfl) (fun _ _ _ h => h) (Or.inl (And.intro (by kernel_rfl) ?q6_7)) hS0 ?r6_7
          case q6_7 => intro w hx; refine run_env [9] [?a6_7_9] (by kernel_rfl) (by kernel_rfl) (⟨?e6_7_9, trivial⟩) ?h6_7; (case e6_7_9 => ((conv => lhs; whnf); (try exact rfl))); (case h6_7 => ((try dsimp only); (try simp only [envL, lookV, if_true, if_false]); (try go_simp); (try with_reducible rfl)))
          (try simp only [Act.put, List.setIfInBounds_toArray, List.set_cons_zero, List.set_cons_succ, List.getElem_toArray, List.getElem_cons_succ, List.getElem_cons_zero])
          refine wpAnyJ_takeG (i := 7) (oi := { dst := some 53 , op := Go.Op.indexAddr 32 ( Go.Operand.tmp 51 ) ( Go.Operand.tmp 52 ) , type := 0 , pos := "ref.go:112" , after := #[ { on := 5 , ground := Go.Ground.data } , { on := 6 , ground := Go.Ground.data } ] , guard := none }) (v := ?v7_8) hG hsel (by kernel_rfl) (by kernel_rfl) (by kernel_rfl) (by kernel_rfl) (fun _ _ _ h => h) (Or.inl (And.intro (by kernel_rfl) ?q7_8)) hS0 ?r7_8
          case q7_8 => intro w hx; refine run_env [51, 52] [?a7_8_51, ?a7_8_52] (by kernel_rfl) (by kernel_rfl) (⟨?e7_8_51, ?e7_8_52, trivial⟩) ?h7_8; (case e7_8_51 => ((conv => lhs; whnf); (try exact rfl))); (case e7_8_52 => ((conv => lhs; whnf); (try exact rfl))); (case h7_8 => ((try dsimp only); (try simp only [envL, lookV, if_true, if_false]); (try go_simp); (try with_reducible rfl)))
          (try simp only [Act.put, List.setIfInBounds_toArray, List.set_cons_zero, List.set_cons_succ, List.getElem_toArray, List.getElem_cons_succ, List.getElem_cons_zero])
          refine wpAnyJ_takeG (i := 8) (oi := { dst := some 54 , op := Go.Op.load 26 ( Go.Operand.tmp 53 ) , type := 26 , pos := "ref.go:112" , after := #[ { on := 7 , ground := Go.Ground.data } ] , guard := none }) (v := ?v8_9) hG hsel (by kernel_rfl) (by kernel_rfl) (by kernel_rfl) (by kernel_rfl) (fun _ _ _ h => h) (Or.inl (And.intro (by kernel_rfl) ?q8_9)) hS0 ?r8_9
          case q8_9 => intro w hx; refine run_env [53] [?a8_9_53] (by kernel_rfl) (by kernel_rfl) (⟨?e8_9_53, trivial⟩) ?h8_9; (case e8_9_53 => ((conv => lhs; whnf); (try exact rfl))); (case h8_9 => ((try dsimp only); (try simp only [envL, lookV, if_true, if_false]); (try go_simp); (try with_reducible rfl)))
          (try simp only [Act.put, List.setIfInBounds_toArray, List.set_cons_zero, List.set_cons_succ, List.getElem_toArray, List.getElem_cons_succ, List.getElem_cons_zero])
          refine wpAnyJ_ready (rs := [9]) (by kernel_rfl) (by simp) ?_
          refine (AllReadyJ.cons rfl (fun K hK => ?_) AllReadyJ.nil)
          rw [if_pos (by kernel_rfl)]
          (try simp only [List.getElem_toArray, List.getElem_cons_succ, List.getElem_cons_zero])
          (focus go_simp)
          (focus ((with_reducible refine (CF.out _).mono ?_); rintro e wq9 ⟨rfl, bq9⟩; have sq := bstep hS0 bq9))
          (focus (try go_wp2_with fail))
          refine hK.out _ _ ?hs (fun hS0 => ?_)
          case hs => (first | with_reducible exact hS0 | with_reducible exact sq)
          clear hK K
          (try simp only [Act.put, List.setIfInBounds_toArray, List.set_cons_zero, List.set_cons_succ, List.getElem_toArray, List.getElem_cons_succ, List.getElem_cons_zero])
          refine wpAnyJ_takeG (i := 10) (oi := { dst := some 56 , op := Go.Op.unOp Go.UnOp.not 4 ( Go.Operand.tmp 55 ) , type := 4 , pos := "ref.go:112" , after := #[ { on := 9 , ground := Go.Ground.data } ] , guard := none }) (v := ?v10_10) hG hsel (by kernel_rfl) (by kernel_rfl) (by kernel_rfl) (by kernel_rfl) (fun _ _ _ h => h) (Or.inl (And.intro (by kernel_rfl) ?q10_10)) hS0 ?r10_10
          case q10_10 => intro w hx; refine run_env [55] [?a10_10_55] (by kernel_rfl) (by kernel_rfl) (⟨?e10_10_55, trivial⟩) ?h10_10; (case e10_10_55 => ((conv => lhs; whnf); (try exact rfl))); (case h10_10 => ((try dsimp only); (try simp only [envL, lookV, if_true, if_false]); (try go_simp); (try with_reducible rfl)))
          (try simp only [Act.put, List.setIfInBounds_toArray, List.set_cons_zero, List.set_cons_succ, List.getElem_toArray, List.getElem_cons_succ, List.getElem_cons_zero])
          refine wpAnyJ_done (by kernel_rfl) ?_ _
        have HZ := hide (Cells.below hS0 K1.out); have LW := hide (bstep LW0.out hS0)
        clear s8 bb hS0 sq bq9 p0 p1 qk0_9 z0 z1 z2 z3 z4 z5 z6 z7
        have er : RV = (zeroE, 2) := by rw [HRV.out, if_pos (by rw [fitsL_no hl hlo (by rw [← HR.out, ← HTT.out]; exact HFV.out)])]
        clear HRV
        subst er
        go_upto_region 9 with fail
        refine wp_region_lit ?_
        refine wpList_plain rfl fun K hK => ?_; go_simp; refine hK _ _ ?_; clear hK K
        refine wpList_store_all rfl 51 (.tmp 6) (.tmp 57) rfl HZ.out (by rfl) (by rfl) (by kernel_rfl) rfl (by simp [Value.oneCell']) ?_
        intro W5 r5 o5 z5
        go_wp2_with fail
        (try simp only [Exit.inBlock, Exit.then])
        refine bodyPost_ret (res_cell_tmp Tryd.results9 r5 (by rfl) (by rfl) _ Tryd.underlying51 rfl (by kernel_rfl)) rfl ?_
        exact ⟨.slice none 0 0, rfl, RowK.Own.nil _, (fun g e => by cases e), LW.out.trans (o5.below (fun j e => by omega) LW.out.size)⟩
      · skip
        focus
          refine wp_region_J [] (fun W => Below wr.heap.size wr W) (by kernel_rfl) (s8) (fun hS0 => ?_)
          obtain ⟨hG, hsel⟩ := okOps (md := .any) (ops := #[{ dst := some 46 , op := Go.Op.fieldAddr 36 ( Go.Operand.tmp 3 ) 4 , type := 0 , pos := "ref.go:112" , after := #[ ] , guard := none }, { dst := some 47 , op := Go.Op.load 34 ( Go.Operand.tmp 46 ) , type := 34 , pos := "ref.go:112" , after := #[ { on := 0 , ground := Go.Ground.data } ] , guard := none }, { dst := some 48 , op := Go.Op.move ( Go.Operand.tmp 9 ) , type := 3 , pos := "ref.go:112" , after := #[ ] , guard := none }, { dst := some 49 , op := Go.Op.indexAddr 34 ( Go.Operand.tmp 47 ) ( Go.Operand.tmp 48 ) , type := 0 , pos := "ref.go:112" , after := #[ { on := 1 , ground := Go.Ground.data } , { on := 2 , ground := Go.Ground.data } ] , guard := none }, { dst := some 50 , op := Go.Op.load 42 ( Go.Operand.tmp 49 ) , type := 42 , pos := "ref.go:112" , after := #[ { on := 3 , ground := Go.Ground.data } ] , guard := none }, { dst := some 51 , op := Go.Op.move ( Go.Operand.tmp 1 ) , type := 32 , pos := "ref.go:112" , after := #[ ] , guard := none }, { dst := some 52 , op := Go.Op.move ( Go.Operand.tmp 9 ) , type := 3 , pos := "ref.go:112" , after := #[ ] , guard := none }, { dst := some 53 , op := Go.Op.indexAddr 32 ( Go.Operand.tmp 51 ) ( Go.Operand.tmp 52 ) , type := 0 , pos := "ref.go:112" , after := #[ { on := 5 , ground := Go.Ground.data } , { on := 6 , ground := Go.Ground.data } ] , guard := none }, { dst := some 54 , op := Go.Op.load 26 ( Go.Operand.tmp 53 ) , type := 26 , pos := "ref.go:112" , after := #[ { on := 7 , ground := Go.Ground.data } ] , guard := none }, { dst := some 55 , op := Go.Op.call { callee := Go.Callee.value ( Go.Operand.func 7 ) , args := #[ Go.Operand.tmp 50 , Go.Operand.tmp 54 ] , argTypes := #[ 42 , 26 ] } , type := 4 , pos := "ref.go:112" , after := #[ { on := 4 , ground := Go.Ground.data } , { on := 8 , ground := Go.Ground.data } ] , guard := none }, { dst := some 56 , op := Go.Op.unOp Go.UnOp.not 4 ( Go.Operand.tmp 55 ) , type := 4 , pos := "ref.go:112" , after := #[ { on := 9 , ground := Go.Ground.data } ] , guard := none }]) (by kernel_rfl)
          refine wpAnyJ_takeG (i := 0) (oi := { dst := some 46 , op := Go.Op.fieldAddr 36 ( Go.Operand.tmp 3 ) 4 , type := 0 , pos := "ref.go:112" , after := #[ ] , guard := none }) (v := ?v0_11) hG hsel (by kernel_rfl) (by kernel_rfl) (by kernel_rfl) (by kernel_rfl) (fun _ _ _ h => h) (Or.inl (And.intro (by kernel_rfl) ?q0_11)) hS0 ?r0_11
          case q0_11 => intro w hx; refine run_env [3] [?a0_11_3] (by kernel_rfl) (by kernel_rfl) (⟨?e0_11_3, trivial⟩) ?h0_11; (case e0_11_3 => ((conv => lhs; whnf); (try exact rfl))); (case h0_11 => ((try dsimp only); (try simp only [envL, lookV, if_true, if_false]); (try go_simp); (try with_reducible rfl)))
          (try simp only [Act.put, List.setIfInBounds_toArray, List.set_cons_zero, List.set_cons_succ, List.getElem_toArray, List.getElem_cons_succ, List.getElem_cons_zero])
          refine wpAnyJ_takeG (i := 1) (oi := { dst := some 47 , op := Go.Op.load 34 ( Go.Operand.tmp 46 ) , type := 34 , pos := "ref.go:112" , after := #[ { on := 0 , ground := Go.Ground.data } ] , guard := none }) (v := ?v1_12) hG hsel (by kernel_rfl) (by kernel_rfl) (by kernel_rfl) (by kernel_rfl) (fun _ _ _ h => h) (Or.inl (And.intro (by kernel_rfl) ?q1_12)) hS0 ?r1_12
          case q1_12 => intro w hx; refine run_env [46] [?a1_12_46] (by kernel_rfl) (by kernel_rfl) (⟨?e1_12_46, trivial⟩) ?h1_12; (case e1_12_46 => ((conv => lhs; whnf); (try exact rfl))); (case h1_12 => ((try dsimp only); (try simp only [envL, lookV, if_true, if_false]); (try go_simp); (try with_reducible rfl)))
          (try simp only [Act.put, List.setIfInBounds_toArray, List.set_cons_zero, List.set_cons_succ, List.getElem_toArray, List.getElem_cons_succ, List.getElem_cons_zero])
          refine wpAnyJ_takeG (i := 2) (oi := { dst := some 48 , op := Go.Op.move ( Go.Operand.tmp 9 ) , type := 3 , pos := "ref.go:112" , after := #[ ] , guard := none }) (v := ?v2_13) hG hsel (by kernel_rfl) (by kernel_rfl) (by kernel_rfl) (by kernel_rfl) (fun _ _ _ h => h) (Or.inl (And.intro (by kernel_rfl) ?q2_13)) hS0 ?r2_13
          case q2_13 => intro w hx; refine run_env [9] [?a2_13_9] (by kernel_rfl) (by kernel_rfl) (⟨?e2_13_9, trivial⟩) ?h2_13; (case e2_13_9 => ((conv => lhs; whnf); (try exact rfl))); (case h2_13 => ((try dsimp only); (try simp only [envL, lookV, if_true, if_false]); (try go_simp); (try with_reducible rfl)))
          (try simp only [Act.put, List.setIfInBounds_toArray, List.set_cons_zero, List.set_cons_succ, List.getElem_toArray, List.getElem_cons_succ, List.getElem_cons_zero])
          refine wpAnyJ_takeG (i := 3) (oi := { dst := some 49 , op := Go.Op.indexAddr 34 ( Go.Operand.tmp 47 ) ( Go.Operand.tmp 48 ) , type := 0 , pos := "ref.go:112" , after := #[ { on := 1 , ground := Go.Ground.data } , { on := 2 , ground := Go.Ground.data } ] , guard := none }) (v := ?v3_14) hG hsel (by kernel_rfl) (by kernel_rfl) (by kernel_rfl) (by kernel_rfl) (fun _ _ _ h => h) (Or.inl (And.intro (by kernel_rfl) ?q3_14)) hS0 ?r3_14
          case q3_14 => intro w hx; refine run_env [47, 48] [?a3_14_47, ?a3_14_48] (by kernel_rfl) (by kernel_rfl) (⟨?e3_14_47, ?e3_14_48, trivial⟩) ?h3_14; (case e3_14_47 => ((conv => lhs; whnf); (try exact rfl))); (case e3_14_48 => ((conv => lhs; whnf); (try exact rfl))); (case h3_14 => ((try dsimp only); (try simp only [envL, lookV, if_true, if_false]); (try go_simp); (try with_reducible rfl)))
          (try simp only [Act.put, List.setIfInBounds_toArray, List.set_cons_zero, List.set_cons_succ, List.getElem_toArray, List.getElem_cons_succ, List.getElem_cons_zero])
          refine wpAnyJ_takeG (i := 4) (oi := { dst := some 50 , op := Go.Op.load 42 ( Go.Operand.tmp 49 ) , type := 42 , pos := "ref.go:112" , after := #[ { on := 3 , ground := Go.Ground.data } ] , guard := none }) (v := ?v4_15) hG hsel (by kernel_rfl) (by kernel_rfl) (by kernel_rfl) (by kernel_rfl) (fun _ _ _ h => h) (Or.inl (And.intro (by kernel_rfl) ?q4_15)) hS0 ?r4_15
          case q4_15 => intro w hx; refine run_env [49] [?a4_15_49] (by kernel_rfl) (by kernel_rfl) (⟨?e4_15_49, trivial⟩) ?h4_15; (case e4_15_49 => ((conv => lhs; whnf); (try exact rfl))); (case h4_15 => ((try dsimp only); (try simp only [envL, lookV, if_true, if_false]); (try go_simp); (try with_reducible rfl)))
          (try simp only [Act.put, List.setIfInBounds_toArray, List.set_cons_zero, List.set_cons_succ, List.getElem_toArray, List.getElem_cons_succ, List.getElem_cons_zero])
          refine wpAnyJ_takeG (i := 5) (oi := { dst := some 51 , op := Go.Op.move ( Go.Operand.tmp 1 ) , type := 32 , pos := "ref.go:112" , after := #[ ] , guard := none }) (v := ?v5_16) hG hsel (by kernel_rfl) (by kernel_rfl) (by kernel_rfl) (by kernel_rfl) (fun _ _ _ h => h) (Or.inl (And.intro (by kernel_rfl) ?q5_16)) hS0 ?r5_16
          case q5_16 => intro w hx; refine run_env [1] [?a5_16_1] (by kernel_rfl) (by kernel_rfl) (⟨?e5_16_1, trivial⟩) ?h5_16; (case e5_16_1 => ((conv => lhs; whnf); (try exact rfl))); (case h5_16 => ((try dsimp only); (try simp only [envL, lookV, if_true, if_false]); (try go_simp); (try with_reducible rfl)))
          (try simp only [Act.put, List.setIfInBounds_toArray, List.set_cons_zero, List.set_cons_succ, List.getElem_toArray, List.getElem_cons_succ, List.getElem_cons_zero])
          refine wpAnyJ_takeG (i := 6) (oi := { dst := some 52 , op := Go.Op.move ( Go.Operand.tmp 9 ) , type := 3 , pos := "ref.go:112" , after := #[ ] , guard := none }) (v := ?v6_17) hG hsel (by kernel_rfl) (by kernel_rfl) (by kernel_rfl) (by kernel_rfl) (fun _ _ _ h => h) (Or.inl (And.intro (by kernel_rfl) ?q6_17)) hS0 ?r6_17
          case q6_17 => intro w hx; refine run_env [9] [?a6_17_9] (by kernel_rfl) (by kernel_rfl) (⟨?e6_17_9, trivial⟩) ?h6_17; (case e6_17_9 => ((conv => lhs; whnf); (try exact rfl))); (case h6_17 => ((try dsimp only); (try simp only [envL, lookV, if_true, if_false]); (try go_simp); (try with_reducible rfl)))
          (try simp only [Act.put, List.setIfInBounds_toArray, List.set_cons_zero, List.set_cons_succ, List.getElem_toArray, List.getElem_cons_succ, List.getElem_cons_zero])
          refine wpAnyJ_takeG (i := 7) (oi := { dst := some 53 , op := Go.Op.indexAddr 32 ( Go.Operand.tmp 51 ) ( Go.Operand.tmp 52 ) , type := 0 , pos := "ref.go:112" , after := #[ { on := 5 , ground := Go.Ground.data } , { on := 6 , ground := Go.Ground.data } ] , guard := none }) (v := ?v7_18) hG hsel (by kernel_rfl) (by kernel_rfl) (by kernel_rfl) (by kernel_rfl) (fun _ _ _ h => h) (Or.inl (And.intro (by kernel_rfl) ?q7_18)) hS0 ?r7_18
          case q7_18 => intro w hx; refine run_env [51, 52] [?a7_18_51, ?a7_18_52] (by kernel_rfl) (by kernel_rfl) (⟨?e7_18_51, ?e7_18_52, trivial⟩) ?h7_18; (case e7_18_51 => ((conv => lhs; whnf); (try exact rfl))); (case e7_18_52 => ((conv => lhs; whnf); (try exact rfl))); (case h7_18 => ((try dsimp only); (try simp only [envL, lookV, if_true, if_false]); (try go_simp); (try with_reducible rfl)))
          (try simp only [Act.put, List.setIfInBounds_toArray, List.set_cons_zero, List.set_cons_succ, List.getElem_toArray, List.getElem_cons_succ, List.getElem_cons_zero])
          refine wpAnyJ_takeG (i := 8) (oi := { dst := some 54 , op := Go.Op.load 26 ( Go.Operand.tmp 53 ) , type := 26 , pos := "ref.go:112" , after := #[ { on := 7 , ground := Go.Ground.data } ] , guard := none }) (v := ?v8_19) hG hsel (by kernel_rfl) (by kernel_rfl) (by kernel_rfl) (by kernel_rfl) (fun _ _ _ h => h) (Or.inl (And.intro (by kernel_rfl) ?q8_19)) hS0 ?r8_19
          case q8_19 => intro w hx; refine run_env [53] [?a8_19_53] (by kernel_rfl) (by kernel_rfl) (⟨?e8_19_53, trivial⟩) ?h8_19; (case e8_19_53 => ((conv => lhs; whnf); (try exact rfl))); (case h8_19 => ((try dsimp only); (try simp only [envL, lookV, if_true, if_false]); (try go_simp); (try with_reducible rfl)))
          (try simp only [Act.put, List.setIfInBounds_toArray, List.set_cons_zero, List.set_cons_succ, List.getElem_toArray, List.getElem_cons_succ, List.getElem_cons_zero])
          refine wpAnyJ_ready (rs := [9]) (by kernel_rfl) (by simp) ?_
          refine (AllReadyJ.cons rfl (fun K hK => ?_) AllReadyJ.nil)
          rw [if_pos (by kernel_rfl)]
          (try simp only [List.getElem_toArray, List.getElem_cons_succ, List.getElem_cons_zero])
          (focus go_simp)
          (focus ((with_reducible refine (CF.out _).mono ?_); rintro e wq9 ⟨rfl, bq9⟩; have sq := bstep hS0 bq9))
          (focus (try go_wp2_with fail))
          refine hK.out _ _ ?hs (fun hS0 => ?_)
          case hs => (first | with_reducible exact hS0 | with_reducible exact sq)
          clear hK K
          (try simp only [Act.put, List.setIfInBounds_toArray, List.set_cons_zero, List.set_cons_succ, List.getElem_toArray, List.getElem_cons_succ, List.getElem_cons_zero])
          refine wpAnyJ_takeG (i := 10) (oi := { dst := some 56 , op := Go.Op.unOp Go.UnOp.not 4 ( Go.Operand.tmp 55 ) , type := 4 , pos := "ref.go:112" , after := #[ { on := 9 , ground := Go.Ground.data } ] , guard := none }) (v := ?v10_20) hG hsel (by kernel_rfl) (by kernel_rfl) (by kernel_rfl) (by kernel_rfl) (fun _ _ _ h => h) (Or.inl (And.intro (by kernel_rfl) ?q10_20)) hS0 ?r10_20
          case q10_20 => intro w hx; refine run_env [55] [?a10_20_55] (by kernel_rfl) (by kernel_rfl) (⟨?e10_20_55, trivial⟩) ?h10_20; (case e10_20_55 => ((conv => lhs; whnf); (try exact rfl))); (case h10_20 => ((try dsimp only); (try simp only [envL, lookV, if_true, if_false]); (try go_simp); (try with_reducible rfl)))
          (try simp only [Act.put, List.setIfInBounds_toArray, List.set_cons_zero, List.set_cons_succ, List.getElem_toArray, List.getElem_cons_succ, List.getElem_cons_zero])
          refine wpAnyJ_done (by kernel_rfl) ?_ _
        have FT2 : fitsL (q.ws.take (kk + 1)) (os.take (kk + 1)) = true := by rw [fitsL_snoc _ _ hl hlo, FT.out, ← HR.out, ← HTT.out, HFV.out]; rfl
        have FT3 := hide FT2
        have GX := hide (Grow.quietc GR.out hS0); have LX := hide (bstep LW0.out hS0); have K0X := hide (Cells.below hS0 K0.out)
        clear s8 bb sq bq9 p0 p1 qk0_9 z0 z1 z2 z3 z4 z5 z6 z7 FT2 GR LW0 K0 K1 CF HFV hS0
        have k0x := K0X.out
        have xs7 : wq9.cell? ⟨w.heap.size, 7, none⟩ = some (.bool true) := k0x.at_ 7
        clear k0x
        rcases (show ((kk : Int) == 0) = true ∨ ((kk : Int) == 0) = false from by cases ((kk : Int) == 0) <;> simp) with e1 | e1
        · have hk0 : kk = 0 := by simpa using e1
          have hso : 0 < os.length := by omega
          have e00 : os[0] = o0 := by rw [HO0.out, List.getD_eq_getElem?_getD, List.getElem?_eq_getElem hso]; rfl
          have et : t = o0 := by rw [HTT.out, ← e00]; congr 1
          have pa : wq9.cell? ⟨gp, op, none⟩ = some (.int .u32 o0.a) := by have := HRP0.out 0 _ rfl wq9 LX.out; rw [et, hk0] at this; simpa using this
          have pb : wq9.cell? ⟨gp, op + 1, none⟩ = some (.int .u16 o0.p) := by have := HRP0.out 1 _ rfl wq9 LX.out; rw [et, hk0] at this; simpa using this
          have gx := GX.out.c
          have x8 := gx.at_ 8; have x9 := gx.at_ 9; have y8 := gx.free 8; have y9 := gx.free 9
          have ya : ∀ v, (wq9.setCell ⟨g8, 8, none⟩ v).cell? ⟨g8, 9, none⟩ = some (.int .u16 (dP kk)) := fun v => (Cells.set_ gx 8 v).at_ 9
          have yb : ∀ v, (wq9.setCell ⟨g8, 8, none⟩ v).frozen? ⟨g8, 9, none⟩ = false := fun v => (Cells.set_ gx 8 v).free 9
          clear gx hso e00 et hk0
          go_upto_region 12 with fail
          clear pa pb x8 x9 y8 y9 ya yb
          have oz : Only (fun j => j = g8) wq9 ((wq9.setCell ⟨g8, 8, none⟩ (.int .u32 o0.a)).setCell ⟨g8, 9, none⟩ (.int .u16 o0.p)) := by repeat' (first | with_reducible exact Only.refl _ _ | with_reducible refine Only.setAt ?_ _ _ (Or.inl rfl))
          have gz : Grow dholdK wq g8 (fun v => #[.int .u8 q.x.p, .int .u32 q.x.si, .int .u16 q.x.sp, .int .u32 q.x.di, .int .u16 q.x.dp, .int .u8 q.x.p, .int .u32 q.di, .int .u16 q.dp, .int .u32 o0.a, .int .u16 o0.p, .int .i64 q.st, .int .i64 0, v]) 51 (holdsL (q.ws.take kk) (os.take kk)) V ((wq9.setCell ⟨g8, 8, none⟩ (.int .u32 o0.a)).setCell ⟨g8, 9, none⟩ (.int .u16 o0.p)) := Grow.turnc GX.out (Cells.like (Cells.set_ (Cells.set_ GX.out.c 8 (.int .u32 o0.a)) 9 (.int .u16 o0.p)) (by simp)) oz
          have GZ := hide gz; have LZ := hide (LX.out.trans (oz.below (fun j e => by have := HG8.out; omega) LX.out.size)); have K0Z := hide (Cells.only K0X.out oz (by have := HG8.out; omega))
          clear gz oz xs7 e1 GX LX K0X
          generalize ((wq9.setCell ⟨g8, 8, none⟩ (.int .u32 o0.a)).setCell ⟨g8, 9, none⟩ (.int .u16 o0.p)) = wz at *
          have hFs : ∀ j, F j → j < wz.heap.size := fun j e => GZ.out.own.row (by rw [HFE.out] at e; exact e)
          have zg := GZ.out.c
          have t0 : ∀ W', Only F wz W' → World.cell? W' ⟨w.heap.size, 9, none⟩ = some (.slice (some ⟨g, o, none⟩) n c) := fun W' hW => (Cells.only K0Z.out hW (fun e => by have := HFG.out _ e; have := HG8.out; omega)).at_ 9
          have t1 : ∀ W', Only F wz W' → World.cell? W' ⟨g, o + kk * 8 + 1, none⟩ = some (.int .u32 r.ii) := fun W' hW => (World.cell?_of_block (hW.block g (Nat.lt_of_lt_of_le HB.out.1 LZ.out.size) HB.out.2.1)).trans (HRW0.out 1 _ rfl wz LZ.out)
          have t2 : ∀ W', Only F wz W' → World.cell? W' ⟨g, o + kk * 8 + 1 + 1, none⟩ = some (.int .u16 r.ip) := fun W' hW => (World.cell?_of_block (hW.block g (Nat.lt_of_lt_of_le HB.out.1 LZ.out.size) HB.out.2.1)).trans (HRW0.out 2 _ rfl wz LZ.out)
          have t3 : ∀ W', Only F wz W' → World.cell? W' ⟨gp, op + kk * 2, none⟩ = some (.int .u32 t.a) := fun W' hW => (World.cell?_of_block (hW.block gp (Nat.lt_of_lt_of_le HB.out.2.2.1 LZ.out.size) HB.out.2.2.2)).trans (HRP0.out 0 _ rfl wz LZ.out)
          have t4 : ∀ W', Only F wz W' → World.cell? W' ⟨gp, op + kk * 2 + 1, none⟩ = some (.int .u16 t.p) := fun W' hW => (World.cell?_of_block (hW.block gp (Nat.lt_of_lt_of_le HB.out.2.2.1 LZ.out.size) HB.out.2.2.2)).trans (HRP0.out 1 _ rfl wz LZ.out)
          have q8 : ∀ W', Only F wz W' → World.cell? W' ⟨g8, 12, none⟩ = some V := fun W' hW => (Cells.only zg hW (fun e => by have := HFG.out _ e; omega)).at_ 12
          have f8 : ∀ W', Only F wz W' → World.frozen? W' ⟨g8, 12, none⟩ = false := fun W' hW => (Cells.only zg hW (fun e => by have := HFG.out _ e; omega)).free 12
          have bb : Only F wz wz := Only.refl _ _
          clear hFs zg
          go_upto_region 12 with fail
          have s12 : Only F wz wz.drew := Only.drew bb
          focus
            refine wp_region_J [16] (fun W => Only F wz W) (by kernel_rfl) (s12) (fun hS0 => ?_)
            obtain ⟨hG, hsel⟩ := okOps (md := .any) (ops := #[{ dst := some 69 , op := Go.Op.fieldAddr 51 ( Go.Operand.tmp 8 ) 4 , type := 0 , pos := "ref.go:118" , after := #[ ] , guard := none }, { dst := some 70 , op := Go.Op.load 49 ( Go.Operand.tmp 69 ) , type := 49 , pos := "ref.go:118" , after := #[ { on := 0 , ground := Go.Ground.data } ] , guard := none }, { dst := some 71 , op := Go.Op.move ( Go.Operand.tmp 1 ) , type := 32 , pos := "ref.go:118" , after := #[ ] , guard := none }, { dst := some 72 , op := Go.Op.move ( Go.Operand.tmp 9 ) , type := 3 , pos := "ref.go:118" , after := #[ ] , guard := none }, { dst := some 73 , op := Go.Op.indexAddr 32 ( Go.Operand.tmp 71 ) ( Go.Operand.tmp 72 ) , type := 0 , pos := "ref.go:118" , after := #[ { on := 2 , ground := Go.Ground.data } , { on := 3 , ground := Go.Ground.data } ] , guard := none }, { dst := some 74 , op := Go.Op.load 26 ( Go.Operand.tmp 73 ) , type := 26 , pos := "ref.go:118" , after := #[ { on := 4 , ground := Go.Ground.data } ] , guard := none }, { dst := some 75 , op := Go.Op.fieldAddr 36 ( Go.Operand.tmp 3 ) 4 , type := 0 , pos := "ref.go:118" , after := #[ ] , guard := none }, { dst := some 76 , op := Go.Op.load 34 ( Go.Operand.tmp 75 ) , type := 34 , pos := "ref.go:118" , after := #[ { on := 6 , ground := Go.Ground.data } ] , guard := none }, { dst := some 77 , op := Go.Op.move ( Go.Operand.tmp 9 ) , type := 3 , pos := "ref.go:118" , after := #[ ] , guard := none }, { dst := some 78 , op := Go.Op.indexAddr 34 ( Go.Operand.tmp 76 ) ( Go.Operand.tmp 77 ) , type := 0 , pos := "ref.go:118" , after := #[ { on := 7 , ground := Go.Ground.data } , { on := 8 , ground := Go.Ground.data } ] , guard := none }, { dst := some 79 , op := Go.Op.fieldAddr 42 ( Go.Operand.tmp 78 ) 1 , type := 0 , pos := "ref.go:118" , after := #[ { on := 9 , ground := Go.Ground.data } ] , guard := none }, { dst := some 80 , op := Go.Op.load 26 ( Go.Operand.tmp 79 ) , type := 26 , pos := "ref.go:118" , after := #[ { on := 10 , ground := Go.Ground.data } ] , guard := none }, { dst := some 81 , op := Go.Op.build 69 #[ ( 0 , Go.Operand.tmp 74 ) , ( 1 , Go.Operand.tmp 80 ) ] , type := 69 , pos := "ref.go:118" , after := #[ { on := 5 , ground := Go.Ground.data } , { on := 11 , ground := Go.Ground.data } ] , guard := none }, { dst := some 82 , op := Go.Op.buildSlice 49 1 #[ ( 0 , Go.Operand.tmp 81 ) ] , type := 49 , pos := "ref.go:118" , after := #[ { on := 12 , ground := Go.Ground.data } ] , guard := none }, { dst := some 83 , op := Go.Op.call { callee := Go.Callee.builtin Go.Builtin.append , args := #[ Go.Operand.tmp 70 , Go.Operand.tmp 82 ] , argTypes := #[ 49 , 49 ] } , type := 49 , pos := "ref.go:118" , after := #[ { on := 1 , ground := Go.Ground.data } , { on := 13 , ground := Go.Ground.data } ] , guard := none }, { dst := some 84 , op := Go.Op.fieldAddr 51 ( Go.Operand.tmp 8 ) 4 , type := 0 , pos := "ref.go:118" , after := #[ { on := 0 , ground := Go.Ground.phase } , { on := 1 , ground := Go.Ground.phase } , { on := 2 , ground := Go.Ground.phase } , { on := 3 , ground := Go.Ground.phase } , { on := 4 , ground := Go.Ground.phase } , { on := 5 , ground := Go.Ground.phase } , { on := 6 , ground := Go.Ground.phase } , { on := 7 , ground := Go.Ground.phase } , { on := 8 , ground := Go.Ground.phase } , { on := 9 , ground := Go.Ground.phase } , { on := 10 , ground := Go.Ground.phase } , { on := 11 , ground := Go.Ground.phase } , { on := 12 , ground := Go.Ground.phase } , { on := 13 , ground := Go.Ground.phase } , { on := 14 , ground := Go.Ground.phase } ] , guard := none }, { dst := none , op := Go.Op.store 49 ( Go.Operand.tmp 84 ) ( Go.Operand.tmp 83 ) , type := 0 , pos := "ref.go:118" , after := #[ { on := 15 , ground := Go.Ground.data } , { on := 14 , ground := Go.Ground.data } , { on := 14 , ground := Go.Ground.chain } , { on := 0 , ground := Go.Ground.phase } , { on := 1 , ground := Go.Ground.phase } , { on := 2 , ground := Go.Ground.phase } , { on := 3 , ground := Go.Ground.phase } , { on := 4 , ground := Go.Ground.phase } , { on := 5 , ground := Go.Ground.phase } , { on := 6 , ground := Go.Ground.phase } , { on := 7 , ground := Go.Ground.phase } , { on := 8 , ground := Go.Ground.phase } , { on := 9 , ground := Go.Ground.phase } , { on := 10 , ground := Go.Ground.phase } , { on := 11 , ground := Go.Ground.phase } , { on := 12 , ground := Go.Ground.phase } , { on := 13 , ground := Go.Ground.phase } , { on := 14 , ground := Go.Ground.phase } ] , guard := none }]) (by kernel_rfl)
            refine wpAnyJ_takeG (i := 0) (oi := { dst := some 69 , op := Go.Op.fieldAddr 51 ( Go.Operand.tmp 8 ) 4 , type := 0 , pos := "ref.go:118" , after := #[ ] , guard := none }) (v := ?v0_21) hG hsel (by kernel_rfl) (by kernel_rfl) (by kernel_rfl) (by kernel_rfl) (fun _ _ _ h => h) (Or.inl (And.intro (by kernel_rfl) ?q0_21)) hS0 ?r0_21
            case q0_21 => intro w hx; refine run_env [8] [?a0_21_8] (by kernel_rfl) (by kernel_rfl) (⟨?e0_21_8, trivial⟩) ?h0_21; (case e0_21_8 => ((conv => lhs; whnf); (try exact rfl))); (case h0_21 => ((try dsimp only); (try simp only [envL, lookV, if_true, if_false]); (try go_simp); (try with_reducible rfl)))
            (try simp only [Act.put, List.setIfInBounds_toArray, List.set_cons_zero, List.set_cons_succ, List.getElem_toArray, List.getElem_cons_succ, List.getElem_cons_zero])
            refine wpAnyJ_takeG (i := 1) (oi := { dst := some 70 , op := Go.Op.load 49 ( Go.Operand.tmp 69 ) , type := 49 , pos := "ref.go:118" , after := #[ { on := 0 , ground := Go.Ground.data } ] , guard := none }) (v := ?v1_22) hG hsel (by kernel_rfl) (by kernel_rfl) (by kernel_rfl) (by kernel_rfl) (fun _ _ _ h => h) (Or.inl (And.intro (by kernel_rfl) ?q1_22)) hS0 ?r1_22
            case q1_22 => intro w hx; refine run_env [69] [?a1_22_69] (by kernel_rfl) (by kernel_rfl) (⟨?e1_22_69, trivial⟩) ?h1_22; (case e1_22_69 => ((conv => lhs; whnf); (try exact rfl))); (case h1_22 => ((try dsimp only); (try simp only [envL, lookV, if_true, if_false]); (try go_simp); (try with_reducible rfl)))
            (try simp only [Act.put, List.setIfInBounds_toArray, List.set_cons_zero, List.set_cons_succ, List.getElem_toArray, List.getElem_cons_succ, List.getElem_cons_zero])
            refine wpAnyJ_takeG (i := 2) (oi := { dst := some 71 , op := Go.Op.move ( Go.Operand.tmp 1 ) , type := 32 , pos := "ref.go:118" , after := #[ ] , guard := none }) (v := ?v2_23) hG hsel (by kernel_rfl) (by kernel_rfl) (by kernel_rfl) (by kernel_rfl) (fun _ _ _ h => h) (Or.inl (And.intro (by kernel_rfl) ?q2_23)) hS0 ?r2_23
            case q2_23 => intro w hx; refine run_env [1] [?a2_23_1] (by kernel_rfl) (by kernel_rfl) (⟨?e2_23_1, trivial⟩) ?h2_23; (case e2_23_1 => ((conv => lhs; whnf); (try exact rfl))); (case h2_23 => ((try dsimp only); (try simp only [envL, lookV, if_true, if_false]); (try go_simp); (try with_reducible rfl)))
            (try simp only [Act.put, List.setIfInBounds_toArray, List.set_cons_zero, List.set_cons_succ, List.getElem_toArray, List.getElem_cons_succ, List.getElem_cons_zero])
            refine wpAnyJ_takeG (i := 3) (oi := { dst := some 72 , op := Go.Op.move ( Go.Operand.tmp 9 ) , type := 3 , pos := "ref.go:118" , after := #[ ] , guard := none }) (v := ?v3_24) hG hsel (by kernel_rfl) (by kernel_rfl) (by kernel_rfl) (by kernel_rfl) (fun _ _ _ h => h) (Or.inl (And.intro (by kernel_rfl) ?q3_24)) hS0 ?r3_24
            case q3_24 => intro w hx; refine run_env [9] [?a3_24_9] (by kernel_rfl) (by kernel_rfl) (⟨?e3_24_9, trivial⟩) ?h3_24; (case e3_24_9 => ((conv => lhs; whnf); (try exact rfl))); (case h3_24 => ((try dsimp only); (try simp only [envL, lookV, if_true, if_false]); (try go_simp); (try with_reducible rfl)))
            (try simp only [Act.put, List.setIfInBounds_toArray, List.set_cons_zero, List.set_cons_succ, List.getElem_toArray, List.getElem_cons_succ, List.getElem_cons_zero])
            refine wpAnyJ_takeG (i := 4) (oi := { dst := some 73 , op := Go.Op.indexAddr 32 ( Go.Operand.tmp 71 ) ( Go.Operand.tmp 72 ) , type := 0 , pos := "ref.go:118" , after := #[ { on := 2 , ground := Go.Ground.data } , { on := 3 , ground := Go.Ground.data } ] , guard := none }) (v := ?v4_25) hG hsel (by kernel_rfl) (by kernel_rfl) (by kernel_rfl) (by kernel_rfl) (fun _ _ _ h => h) (Or.inl (And.intro (by kernel_rfl) ?q4_25)) hS0 ?r4_25
            case q4_25 => intro w hx; refine run_env [71, 72] [?a4_25_71, ?a4_25_72] (by kernel_rfl) (by kernel_rfl) (⟨?e4_25_71, ?e4_25_72, trivial⟩) ?h4_25; (case e4_25_71 => ((conv => lhs; whnf); (try exact rfl))); (case e4_25_72 => ((conv => lhs; whnf); (try exact rfl))); (case h4_25 => ((try dsimp only); (try simp only [envL, lookV, if_true, if_false]); (try go_simp); (try with_reducible rfl)))
            (try simp only [Act.put, List.setIfInBounds_toArray, List.set_cons_zero, List.set_cons_succ, List.getElem_toArray, List.getElem_cons_succ, List.getElem_cons_zero])
            refine wpAnyJ_takeG (i := 5) (oi := { dst := some 74 , op := Go.Op.load 26 ( Go.Operand.tmp 73 ) , type := 26 , pos := "ref.go:118" , after := #[ { on := 4 , ground := Go.Ground.data } ] , guard := none }) (v := ?v5_26) hG hsel (by kernel_rfl) (by kernel_rfl) (by kernel_rfl) (by kernel_rfl) (fun _ _ _ h => h) (Or.inl (And.intro (by kernel_rfl) ?q5_26)) hS0 ?r5_26
            case q5_26 => intro w hx; refine run_env [73] [?a5_26_73] (by kernel_rfl) (by kernel_rfl) (⟨?e5_26_73, trivial⟩) ?h5_26; (case e5_26_73 => ((conv => lhs; whnf); (try exact rfl))); (case h5_26 => ((try dsimp only); (try simp only [envL, lookV, if_true, if_false]); (try go_simp); (try with_reducible rfl)))
            (try simp only [Act.put, List.setIfInBounds_toArray, List.set_cons_zero, List.set_cons_succ, List.getElem_toArray, List.getElem_cons_succ, List.getElem_cons_zero])
            refine wpAnyJ_takeG (i := 6) (oi := { dst := some 75 , op := Go.Op.fieldAddr 36 ( Go.Operand.tmp 3 ) 4 , type := 0 , pos := "ref.go:118" , after := #[ ] , guard := none }) (v := ?v6_27) hG hsel (by kernel_rfl) (by kernel_rfl) (by kernel_rfl) (by kernel_rfl) (fun _ _ _ h => h) (Or.inl (And.intro (by kernel_rfl) ?q6_27)) hS0 ?r6_27
            case q6_27 => intro w hx; refine run_env [3] [?a6_27_3] (by kernel_rfl) (by kernel_rfl) (⟨?e6_27_3, trivial⟩) ?h6_27; (case e6_27_3 => ((conv => lhs; whnf); (try exact rfl))); (case h6_27 => ((try dsimp only); (try simp only [envL, lookV, if_true, if_false]); (try go_simp); (try with_reducible rfl)))
            (try simp only [Act.put, List.setIfInBounds_toArray, List.set_cons_zero, List.set_cons_succ, List.getElem_toArray, List.getElem_cons_succ, List.getElem_cons_zero])
            refine wpAnyJ_takeG (i := 7) (oi := { dst := some 76 , op := Go.Op.load 34 ( Go.Operand.tmp 75 ) , type := 34 , pos := "ref.go:118" , after := #[ { on := 6 , ground := Go.Ground.data } ] , guard := none }) (v := ?v7_28) hG hsel (by kernel_rfl) (by kernel_rfl) (by kernel_rfl) (by kernel_rfl) (fun _ _ _ h => h) (Or.inl (And.intro (by kernel_rfl) ?q7_28)) hS0 ?r7_28
            case q7_28 => intro w hx; refine run_env [75] [?a7_28_75] (by kernel_rfl) (by kernel_rfl) (⟨?e7_28_75, trivial⟩) ?h7_28; (case e7_28_75 => ((conv => lhs; whnf); (try exact rfl))); (case h7_28 => ((try dsimp only); (try simp only [envL, lookV, if_true, if_false]); (try go_simp); (try with_reducible rfl)))
            (try simp only [Act.put, List.setIfInBounds_toArray, List.set_cons_zero, List.set_cons_succ, List.getElem_toArray, List.getElem_cons_succ, List.getElem_cons_zero])
            refine wpAnyJ_takeG (i := 8) (oi := { dst := some 77 , op := Go.Op.move ( Go.Operand.tmp 9 ) , type := 3 , pos := "ref.go:118" , after := #[ ] , guard := none }) (v := ?v8_29) hG hsel (by kernel_rfl) (by kernel_rfl) (by kernel_rfl) (by kernel_rfl) (fun _ _ _ h => h) (Or.inl (And.intro (by kernel_rfl) ?q8_29)) hS0 ?r8_29
            case q8_29 => intro w hx; refine run_env [9] [?a8_29_9] (by kernel_rfl) (by kernel_rfl) (⟨?e8_29_9, trivial⟩) ?h8_29; (case e8_29_9 => ((conv => lhs; whnf); (try exact rfl))); (case h8_29 => ((try dsimp only); (try simp only [envL, lookV, if_true, if_false]); (try go_simp); (try with_reducible rfl)))
            (try simp only [Act.put, List.setIfInBounds_toArray, List.set_cons_zero, List.set_cons_succ, List.getElem_toArray, List.getElem_cons_succ, List.getElem_cons_zero])
            refine wpAnyJ_takeG (i := 9) (oi := { dst := some 78 , op := Go.Op.indexAddr 34 ( Go.Operand.tmp 76 ) ( Go.Operand.tmp 77 ) , type := 0 , pos := "ref.go:118" , after := #[ { on := 7 , ground := Go.Ground.data } , { on := 8 , ground := Go.Ground.data } ] , guard := none }) (v := ?v9_30) hG hsel (by kernel_rfl) (by kernel_rfl) (by kernel_rfl) (by kernel_rfl) (fun _ _ _ h => h) (Or.inl (And.intro (by kernel_rfl) ?q9_30)) hS0 ?r9_30
            case q9_30 => intro w hx; refine run_env [76, 77] [?a9_30_76, ?a9_30_77] (by kernel_rfl) (by kernel_rfl) (⟨?e9_30_76, ?e9_30_77, trivial⟩) ?h9_30; (case e9_30_76 => ((conv => lhs; whnf); (try exact rfl))); (case e9_30_77 => ((conv => lhs; whnf); (try exact rfl))); (case h9_30 => ((try dsimp only); (try simp only [envL, lookV, if_true, if_false]); (try go_simp); (try with_reducible rfl)))
            (try simp only [Act.put, List.setIfInBounds_toArray, List.set_cons_zero, List.set_cons_succ, List.getElem_toArray, List.getElem_cons_succ, List.getElem_cons_zero])
            refine wpAnyJ_takeG (i := 10) (oi := { dst := some 79 , op := Go.Op.fieldAddr 42 ( Go.Operand.tmp 78 ) 1 , type := 0 , pos := "ref.go:118" , after := #[ { on := 9 , ground := Go.Ground.data } ] , guard := none }) (v := ?v10_31) hG hsel (by kernel_rfl) (by kernel_rfl) (by kernel_rfl) (by kernel_rfl) (fun _ _ _ h => h) (Or.inl (And.intro (by kernel_rfl) ?q10_31)) hS0 ?r10_31
            case q10_31 => intro w hx; refine run_env [78] [?a10_31_78] (by kernel_rfl) (by kernel_rfl) (⟨?e10_31_78, trivial⟩) ?h10_31; (case e10_31_78 => ((conv => lhs; whnf); (try exact rfl))); (case h10_31 => ((try dsimp only); (try simp only [envL, lookV, if_true, if_false]); (try go_simp); (try with_reducible rfl)))
            (try simp only [Act.put, List.setIfInBounds_toArray, List.set_cons_zero, List.set_cons_succ, List.getElem_toArray, List.getElem_cons_succ, List.getElem_cons_zero])
            refine wpAnyJ_takeG (i := 11) (oi := { dst := some 80 , op := Go.Op.load 26 ( Go.Operand.tmp 79 ) , type := 26 , pos := "ref.go:118" , after := #[ { on := 10 , ground := Go.Ground.data } ] , guard := none }) (v := ?v11_32) hG hsel (by kernel_rfl) (by kernel_rfl) (by kernel_rfl) (by kernel_rfl) (fun _ _ _ h => h) (Or.inl (And.intro (by kernel_rfl) ?q11_32)) hS0 ?r11_32
            case q11_32 => intro w hx; refine run_env [79] [?a11_32_79] (by kernel_rfl) (by kernel_rfl) (⟨?e11_32_79, trivial⟩) ?h11_32; (case e11_32_79 => ((conv => lhs; whnf); (try exact rfl))); (case h11_32 => ((try dsimp only); (try simp only [envL, lookV, if_true, if_false]); (try go_simp); (try with_reducible rfl)))
            (try simp only [Act.put, List.setIfInBounds_toArray, List.set_cons_zero, List.set_cons_succ, List.getElem_toArray, List.getElem_cons_succ, List.getElem_cons_zero])
            refine wpAnyJ_takeG (i := 12) (oi := { dst := some 81 , op := Go.Op.build 69 #[ ( 0 , Go.Operand.tmp 74 ) , ( 1 , Go.Operand.tmp 80 ) ] , type := 69 , pos := "ref.go:118" , after := #[ { on := 5 , ground := Go.Ground.data } , { on := 11 , ground := Go.Ground.data } ] , guard := none }) (v := ?v12_33) hG hsel (by kernel_rfl) (by kernel_rfl) (by kernel_rfl) (by kernel_rfl) (fun _ _ _ h => h) (Or.inl (And.intro (by kernel_rfl) ?q12_33)) hS0 ?r12_33
            case q12_33 => intro w hx; refine run_env [74, 80] [?a12_33_74, ?a12_33_80] (by kernel_rfl) (by kernel_rfl) (⟨?e12_33_74, ?e12_33_80, trivial⟩) ?h12_33; (case e12_33_74 => ((conv => lhs; whnf); (try exact rfl))); (case e12_33_80 => ((conv => lhs; whnf); (try exact rfl))); (case h12_33 => ((try dsimp only); (try simp only [envL, lookV, if_true, if_false]); (try go_simp); (try with_reducible rfl)))
            (try simp only [Act.put, List.setIfInBounds_toArray, List.set_cons_zero, List.set_cons_succ, List.getElem_toArray, List.getElem_cons_succ, List.getElem_cons_zero])
            refine wpAnyJ_ready (rs := [13]) (by kernel_rfl) (by simp) ?_
            refine (AllReadyJ.cons rfl (fun K hK => ?_) AllReadyJ.nil)
            rw [if_pos (by kernel_rfl)]
            (try simp only [List.getElem_toArray, List.getElem_cons_succ, List.getElem_cons_zero])
            (focus go_simp)
            refine hK.out _ _ ?hs (fun hS0 => ?_)
            case hs => (first | with_reducible exact hS0 | with_reducible exact st | exact Only.then hS0 (fresh_below _ _))
            clear hK K
            (try simp only [Act.put, List.setIfInBounds_toArray, List.set_cons_zero, List.set_cons_succ, List.getElem_toArray, List.getElem_cons_succ, List.getElem_cons_zero])
            refine wpAnyJ_ready (rs := [14]) (by kernel_rfl) (by simp) ?_
            refine (AllReadyJ.cons rfl (fun K hK => ?_) AllReadyJ.nil)
            (focus (refine RowK.step_app (K := dholdK) rfl (.tmp 70) (.tmp 82) rfl _ _ rfl rfl (holdsL (q.ws.take kk) (os.take kk)) [holdOf r t] (RowK.Own.below (RowK.Own.below GZ.out.own (Below.drew (Below.refl _ _))) (fresh_below _ _)) (RowK.Read.one (Cells.new _ _ _)) (by rw [holdsL_len _ _ (by simp; omega)]; simp; omega) ?_; intro A1 n1 w9 o9 g9' h9; rw [HLN.out] at o9 h9 ⊢; have st := Only.app hS0 g9' (fun j e => Or.inl (by rw [HFE.out]; exact e))))
            (focus (try go_wp2_with fail))
            refine hK.out _ _ ?hs (fun hS0 => ?_)
            case hs => (first | with_reducible exact hS0 | with_reducible exact st | exact Only.then hS0 (fresh_below _ _))
            clear hK K
            (try simp only [Act.put, List.setIfInBounds_toArray, List.set_cons_zero, List.set_cons_succ, List.getElem_toArray, List.getElem_cons_succ, List.getElem_cons_zero])
            refine wpAnyJ_takeG (i := 15) (oi := { dst := some 84 , op := Go.Op.fieldAddr 51 ( Go.Operand.tmp 8 ) 4 , type := 0 , pos := "ref.go:118" , after := #[ { on := 0 , ground := Go.Ground.phase } , { on := 1 , ground := Go.Ground.phase } , { on := 2 , ground := Go.Ground.phase } , { on := 3 , ground := Go.Ground.phase } , { on := 4 , ground := Go.Ground.phase } , { on := 5 , ground := Go.Ground.phase } , { on := 6 , ground := Go.Ground.phase } , { on := 7 , ground := Go.Ground.phase } , { on := 8 , ground := Go.Ground.phase } , { on := 9 , ground := Go.Ground.phase } , { on := 10 , ground := Go.Ground.phase } , { on := 11 , ground := Go.Ground.phase } , { on := 12 , ground := Go.Ground.phase } , { on := 13 , ground := Go.Ground.phase } , { on := 14 , ground := Go.Ground.phase } ] , guard := none }) (v := ?v15_34) hG hsel (by kernel_rfl) (by kernel_rfl) (by kernel_rfl) (by kernel_rfl) (fun _ _ _ h => h) (Or.inl (And.intro (by kernel_rfl) ?q15_34)) hS0 ?r15_34
            case q15_34 => intro w hx; refine run_env [8] [?a15_34_8] (by kernel_rfl) (by kernel_rfl) (⟨?e15_34_8, trivial⟩) ?h15_34; (case e15_34_8 => ((conv => lhs; whnf); (try exact rfl))); (case h15_34 => ((try dsimp only); (try simp only [envL, lookV, if_true, if_false]); (try go_simp); (try with_reducible rfl)))
            (try simp only [Act.put, List.setIfInBounds_toArray, List.set_cons_zero, List.set_cons_succ, List.getElem_toArray, List.getElem_cons_succ, List.getElem_cons_zero])
            refine wpAnyJ_ready (rs := [16]) (by kernel_rfl) (by simp) ?_
            refine (AllReadyJ.last rfl (by kernel_rfl) (fun K hK => ?_) AllReadyJ.nil)
            (focus (rw [if_pos (by kernel_rfl)]; have y9 := q8 _ hS0; have f9' := f8 _ hS0; go_simp))
            (focus (try go_wp2_with fail))
            refine hK.out _ _ ?_
            clear hK K
            (try simp only [Act.put, List.setIfInBounds_toArray, List.set_cons_zero, List.set_cons_succ, List.getElem_toArray, List.getElem_cons_succ, List.getElem_cons_zero])
            refine wpAnyJ_done (by kernel_rfl) ?_ _
          have gr2 : Grow dholdK wq g8 (fun v => #[.int .u8 q.x.p, .int .u32 q.x.si, .int .u16 q.x.sp, .int .u32 q.x.di, .int .u16 q.x.dp, .int .u8 q.x.p, .int .u32 q.di, .int .u16 q.dp, .int .u32 o0.a, .int .u16 o0.p, .int .i64 q.st, .int .i64 0, v]) 51 (holdsL (q.ws.take (kk + 1)) (os.take (kk + 1))) _ (w9.setCell ⟨g8, 12, none⟩ (.slice A1 (kk + 1) n1)) := Grow.step (l := holdsL (q.ws.take kk) (os.take kk)) GZ.out (fun u v => by simp) (by rw [HFE.out] at hS0; exact hS0) (by rw [holdsL_snoc _ _ hl hlo, ← HR.out, ← HTT.out]; exact o9) (by
            rcases h9 with e | e
            · exact Or.inl e
            · exact Or.inr (fun j k => by rw [e] at k; cases k; simp))
          have GR2 := hide gr2
          clear g9' h9 o9 t0 t1 t2 t3 t4 q8 f8 bb s12 gr2 hS0 GZ K0Z LZ HFE HFG HB HRW0 HRP0 HR HTT HLN st
          generalize (w9.setCell ⟨g8, 12, none⟩ (.slice A1 (kk + 1) n1)) = w10 at *
          go_wp2_with fail
          go_roundg (n - (kk + 1))
          case measure => omega
          case rel => exact ⟨kk + 1, by omega, by omega, by go_num, (show Aside _ from ⟨_, by have h := GR2.out; rw [← DA1.out kk, ← DP1.out kk] at h; exact h⟩), (show Aside _ from FT3.out)⟩
        · have hk0 : kk ≠ 0 := by simpa using e1
          obtain ⟨k1, hk1⟩ : ∃ k1, kk = k1 + 1 := ⟨kk - 1, by omega⟩
          have gz : Grow dholdK wq g8 (fun v => #[.int .u8 q.x.p, .int .u32 q.x.si, .int .u16 q.x.sp, .int .u32 q.x.di, .int .u16 q.x.dp, .int .u8 q.x.p, .int .u32 q.di, .int .u16 q.dp, .int .u32 o0.a, .int .u16 o0.p, .int .i64 q.st, .int .i64 0, v]) 51 (holdsL (q.ws.take kk) (os.take kk)) V wq9 := by have h := GX.out; rw [hk1, DA1.out k1, DP1.out k1, ← hk1] at h; exact h
          clear hk1 hk0
          go_upto_region 12 with fail
          obtain ⟨wz, hwz⟩ : ∃ wz, wz = wq9 := ⟨_, rfl⟩
          rw [← hwz] at gz LX K0X ⊢
          have GZ := hide gz; have LZ := LX; have K0Z := K0X
          clear hwz xs7 e1 gz GX LX K0X
          have hFs : ∀ j, F j → j < wz.heap.size := fun j e => GZ.out.own.row (by rw [HFE.out] at e; exact e)
          have zg := GZ.out.c
          have t0 : ∀ W', Only F wz W' → World.cell? W' ⟨w.heap.size, 9, none⟩ = some (.slice (some ⟨g, o, none⟩) n c) := fun W' hW => (Cells.only K0Z.out hW (fun e => by have := HFG.out _ e; have := HG8.out; omega)).at_ 9
          have t1 : ∀ W', Only F wz W' → World.cell? W' ⟨g, o + kk * 8 + 1, none⟩ = some (.int .u32 r.ii) := fun W' hW => (World.cell?_of_block (hW.block g (Nat.lt_of_lt_of_le HB.out.1 LZ.out.size) HB.out.2.1)).trans (HRW0.out 1 _ rfl wz LZ.out)
          have t2 : ∀ W', Only F wz W' → World.cell? W' ⟨g, o + kk * 8 + 1 + 1, none⟩ = some (.int .u16 r.ip) := fun W' hW => (World.cell?_of_block (hW.block g (Nat.lt_of_lt_of_le HB.out.1 LZ.out.size) HB.out.2.1)).trans (HRW0.out 2 _ rfl wz LZ.out)
          have t3 : ∀ W', Only F wz W' → World.cell? W' ⟨gp, op + kk * 2, none⟩ = some (.int .u32 t.a) := fun W' hW => (World.cell?_of_block (hW.block gp (Nat.lt_of_lt_of_le HB.out.2.2.1 LZ.out.size) HB.out.2.2.2)).trans (HRP0.out 0 _ rfl wz LZ.out)
          have t4 : ∀ W', Only F wz W' → World.cell? W' ⟨gp, op + kk * 2 + 1, none⟩ = some (.int .u16 t.p) := fun W' hW => (World.cell?_of_block (hW.block gp (Nat.lt_of_lt_of_le HB.out.2.2.1 LZ.out.size) HB.out.2.2.2)).trans (HRP0.out 1 _ rfl wz LZ.out)
          have q8 : ∀ W', Only F wz W' → World.cell? W' ⟨g8, 12, none⟩ = some V := fun W' hW => (Cells.only zg hW (fun e => by have := HFG.out _ e; omega)).at_ 12
          have f8 : ∀ W', Only F wz W' → World.frozen? W' ⟨g8, 12, none⟩ = false := fun W' hW => (Cells.only zg hW (fun e => by have := HFG.out _ e; omega)).free 12
          have bb : Only F wz wz := Only.refl _ _
          clear hFs zg
          go_upto_region 12 with fail
          have s12 : Only F wz wz.drew := Only.drew bb
          focus
            refine wp_region_J [16] (fun W => Only F wz W) (by kernel_rfl) (s12) (fun hS0 => ?_)
            obtain ⟨hG, hsel⟩ := okOps (md := .any) (ops := #[{ dst := some 69 , op := Go.Op.fieldAddr 51 ( Go.Operand.tmp 8 ) 4 , type := 0 , pos := "ref.go:118" , after := #[ ] , guard := none }, { dst := some 70 , op := Go.Op.load 49 ( Go.Operand.tmp 69 ) , type := 49 , pos := "ref.go:118" , after := #[ { on := 0 , ground := Go.Ground.data } ] , guard := none }, { dst := some 71 , op := Go.Op.move ( Go.Operand.tmp 1 ) , type := 32 , pos := "ref.go:118" , after := #[ ] , guard := none }, { dst := some 72 , op := Go.Op.move ( Go.Operand.tmp 9 ) , type := 3 , pos := "ref.go:118" , after := #[ ] , guard := none }, { dst := some 73 , op := Go.Op.indexAddr 32 ( Go.Operand.tmp 71 ) ( Go.Operand.tmp 72 ) , type := 0 , pos := "ref.go:118" , after := #[ { on := 2 , ground := Go.Ground.data } , { on := 3 , ground := Go.Ground.data } ] , guard := none }, { dst := some 74 , op := Go.Op.load 26 ( Go.Operand.tmp 73 ) , type := 26 , pos := "ref.go:118" , after := #[ { on := 4 , ground := Go.Ground.data } ] , guard := none }, { dst := some 75 , op := Go.Op.fieldAddr 36 ( Go.Operand.tmp 3 ) 4 , type := 0 , pos := "ref.go:118" , after := #[ ] , guard := none }, { dst := some 76 , op := Go.Op.load 34 ( Go.Operand.tmp 75 ) , type := 34 , pos := "ref.go:118" , after := #[ { on := 6 , ground := Go.Ground.data } ] , guard := none }, { dst := some 77 , op := Go.Op.move ( Go.Operand.tmp 9 ) , type := 3 , pos := "ref.go:118" , after := #[ ] , guard := none }, { dst := some 78 , op := Go.Op.indexAddr 34 ( Go.Operand.tmp 76 ) ( Go.Operand.tmp 77 ) , type := 0 , pos := "ref.go:118" , after := #[ { on := 7 , ground := Go.Ground.data } , { on := 8 , ground := Go.Ground.data } ] , guard := none }, { dst := some 79 , op := Go.Op.fieldAddr 42 ( Go.Operand.tmp 78 ) 1 , type := 0 , pos := "ref.go:118" , after := #[ { on := 9 , ground := Go.Ground.data } ] , guard := none }, { dst := some 80 , op := Go.Op.load 26 ( Go.Operand.tmp 79 ) , type := 26 , pos := "ref.go:118" , after := #[ { on := 10 , ground := Go.Ground.data } ] , guard := none }, { dst := some 81 , op := Go.Op.build 69 #[ ( 0 , Go.Operand.tmp 74 ) , ( 1 , Go.Operand.tmp 80 ) ] , type := 69 , pos := "ref.go:118" , after := #[ { on := 5 , ground := Go.Ground.data } , { on := 11 , ground := Go.Ground.data } ] , guard := none }, { dst := some 82 , op := Go.Op.buildSlice 49 1 #[ ( 0 , Go.Operand.tmp 81 ) ] , type := 49 , pos := "ref.go:118" , after := #[ { on := 12 , ground := Go.Ground.data } ] , guard := none }, { dst := some 83 , op := Go.Op.call { callee := Go.Callee.builtin Go.Builtin.append , args := #[ Go.Operand.tmp 70 , Go.Operand.tmp 82 ] , argTypes := #[ 49 , 49 ] } , type := 49 , pos := "ref.go:118" , after := #[ { on := 1 , ground := Go.Ground.data } , { on := 13 , ground := Go.Ground.data } ] , guard := none }, { dst := some 84 , op := Go.Op.fieldAddr 51 ( Go.Operand.tmp 8 ) 4 , type := 0 , pos := "ref.go:118" , after := #[ { on := 0 , ground := Go.Ground.phase } , { on := 1 , ground := Go.Ground.phase } , { on := 2 , ground := Go.Ground.phase } , { on := 3 , ground := Go.Ground.phase } , { on := 4 , ground := Go.Ground.phase } , { on := 5 , ground := Go.Ground.phase } , { on := 6 , ground := Go.Ground.phase } , { on := 7 , ground := Go.Ground.phase } , { on := 8 , ground := Go.Ground.phase } , { on := 9 , ground := Go.Ground.phase } , { on := 10 , ground := Go.Ground.phase } , { on := 11 , ground := Go.Ground.phase } , { on := 12 , ground := Go.Ground.phase } , { on := 13 , ground := Go.Ground.phase } , { on := 14 , ground := Go.Ground.phase } ] , guard := none }, { dst := none , op := Go.Op.store 49 ( Go.Operand.tmp 84 ) ( Go.Operand.tmp 83 ) , type := 0 , pos := "ref.go:118" , after := #[ { on := 15 , ground := Go.Ground.data } , { on := 14 , ground := Go.Ground.data } , { on := 14 , ground := Go.Ground.chain } , { on := 0 , ground := Go.Ground.phase } , { on := 1 , ground := Go.Ground.phase } , { on := 2 , ground := Go.Ground.phase } , { on := 3 , ground := Go.Ground.phase } , { on := 4 , ground := Go.Ground.phase } , { on := 5 , ground := Go.Ground.phase } , { on := 6 , ground := Go.Ground.phase } , { on := 7 , ground := Go.Ground.phase } , { on := 8 , ground := Go.Ground.phase } , { on := 9 , ground := Go.Ground.phase } , { on := 10 , ground := Go.Ground.phase } , { on := 11 , ground := Go.Ground.phase } , { on := 12 , ground := Go.Ground.phase } , { on := 13 , ground := Go.Ground.phase } , { on := 14 , ground := Go.Ground.phase } ] , guard := none }]) (by kernel_rfl)
            refine wpAnyJ_takeG (i := 0) (oi := { dst := some 69 , op := Go.Op.fieldAddr 51 ( Go.Operand.tmp 8 ) 4 , type := 0 , pos := "ref.go:118" , after := #[ ] , guard := none }) (v := ?v0_35) hG hsel (by kernel_rfl) (by kernel_rfl) (by kernel_rfl) (by kernel_rfl) (fun _ _ _ h => h) (Or.inl (And.intro (by kernel_rfl) ?q0_35)) hS0 ?r0_35
            case q0_35 => intro w hx; refine run_env [8] [?a0_35_8] (by kernel_rfl) (by kernel_rfl) (⟨?e0_35_8, trivial⟩) ?h0_35; (case e0_35_8 => ((conv => lhs; whnf); (try exact rfl))); (case h0_35 => ((try dsimp only); (try simp only [envL, lookV, if_true, if_false]); (try go_simp); (try with_reducible rfl)))
            (try simp only [Act.put, List.setIfInBounds_toArray, List.set_cons_zero, List.set_cons_succ, List.getElem_toArray, List.getElem_cons_succ, List.getElem_cons_zero])
            refine wpAnyJ_takeG (i := 1) (oi := { dst := some 70 , op := Go.Op.load 49 ( Go.Operand.tmp 69 ) , type := 49 , pos := "ref.go:118" , after := #[ { on := 0 , ground := Go.Ground.data } ] , guard := none }) (v := ?v1_36) hG hsel (by kernel_rfl) (by kernel_rfl) (by kernel_rfl) (by kernel_rfl) (fun _ _ _ h => h) (Or.inl (And.intro (by kernel_rfl) ?q1_36)) hS0 ?r1_36
            case q1_36 => intro w hx; refine run_env [69] [?a1_36_69] (by kernel_rfl) (by kernel_rfl) (⟨?e1_36_69, trivial⟩) ?h1_36; (case e1_36_69 => ((conv => lhs; whnf); (try exact rfl))); (case h1_36 => ((try dsimp only); (try simp only [envL, lookV, if_true, if_false]); (try go_simp); (try with_reducible rfl)))
            (try simp only [Act.put, List.setIfInBounds_toArray, List.set_cons_zero, List.set_cons_succ, List.getElem_toArray, List.getElem_cons_succ, List.getElem_cons_zero])
            refine wpAnyJ_takeG (i := 2) (oi := { dst := some 71 , op := Go.Op.move ( Go.Operand.tmp 1 ) , type := 32 , pos := "ref.go:118" , after := #[ ] , guard := none }) (v := ?v2_37) hG hsel (by kernel_rfl) (by kernel_rfl) (by kernel_rfl) (by kernel_rfl) (fun _ _ _ h => h) (Or.inl (And.intro (by kernel_rfl) ?q2_37)) hS0 ?r2_37
            case q2_37 => intro w hx; refine run_env [1] [?a2_37_1] (by kernel_rfl) (by kernel_rfl) (⟨?e2_37_1, trivial⟩) ?h2_37; (case e2_37_1 => ((conv => lhs; whnf); (try exact rfl))); (case h2_37 => ((try dsimp only); (try simp only [envL, lookV, if_true, if_false]); (try go_simp); (try with_reducible rfl)))
            (try simp only [Act.put, List.setIfInBounds_toArray, List.set_cons_zero, List.set_cons_succ, List.getElem_toArray, List.getElem_cons_succ, List.getElem_cons_zero])
            refine wpAnyJ_takeG (i := 3) (oi := { dst := some 72 , op := Go.Op.move ( Go.Operand.tmp 9 ) , type := 3 , pos := "ref.go:118" , after := #[ ] , guard := none }) (v := ?v3_38) hG hsel (by kernel_rfl) (by kernel_rfl) (by kernel_rfl) (by kernel_rfl) (fun _ _ _ h => h) (Or.inl (And.intro (by kernel_rfl) ?q3_38)) hS0 ?r3_38
            case q3_38 => intro w hx; refine run_env [9] [?a3_38_9] (by kernel_rfl) (by kernel_rfl) (⟨?e3_38_9, trivial⟩) ?h3_38; (case e3_38_9 => ((conv => lhs; whnf); (try exact rfl))); (case h3_38 => ((try dsimp only); (try simp only [envL, lookV, if_true, if_false]); (try go_simp); (try with_reducible rfl)))
            (try simp only [Act.put, List.setIfInBounds_toArray, List.set_cons_zero, List.set_cons_succ, List.getElem_toArray, List.getElem_cons_succ, List.getElem_cons_zero])
            refine wpAnyJ_takeG (i := 4) (oi := { dst := some 73 , op := Go.Op.indexAddr 32 ( Go.Operand.tmp 71 ) ( Go.Operand.tmp 72 ) , type := 0 , pos := "ref.go:118" , after := #[ { on := 2 , ground := Go.Ground.data } , { on := 3 , ground := Go.Ground.data } ] , guard := none }) (v := ?v4_39) hG hsel (by kernel_rfl) (by kernel_rfl) (by kernel_rfl) (by kernel_rfl) (fun _ _ _ h => h) (Or.inl (And.intro (by kernel_rfl) ?q4_39)) hS0 ?r4_39
            case q4_39 => intro w hx; refine run_env [71, 72] [?a4_39_71, ?a4_39_72] (by kernel_rfl) (by kernel_rfl) (⟨?e4_39_71, ?e4_39_72, trivial⟩) ?h4_39; (case e4_39_71 => ((conv => lhs; whnf); (try exact rfl))); (case e4_39_72 => ((conv => lhs; whnf); (try exact rfl))); (case h4_39 => ((try dsimp only); (try simp only [envL, lookV, if_true, if_false]); (try go_simp); (try with_reducible rfl)))
            (try simp only [Act.put, List.setIfInBounds_toArray, List.set_cons_zero, List.set_cons_succ, List.getElem_toArray, List.getElem_cons_succ, List.getElem_cons_zero])
            refine wpAnyJ_takeG (i := 5) (oi := { dst := some 74 , op := Go.Op.load 26 ( Go.Operand.tmp 73 ) , type := 26 , pos := "ref.go:118" , after := #[ { on := 4 , ground := Go.Ground.data } ] , guard := none }) (v := ?v5_40) hG hsel (by kernel_rfl) (by kernel_rfl) (by kernel_rfl) (by kernel_rfl) (fun _ _ _ h => h) (Or.inl (And.intro (by kernel_rfl) ?q5_40)) hS0 ?r5_40
            case q5_40 => intro w hx; refine run_env [73] [?a5_40_73] (by kernel_rfl) (by kernel_rfl) (⟨?e5_40_73, trivial⟩) ?h5_40; (case e5_40_73 => ((conv => lhs; whnf); (try exact rfl))); (case h5_40 => ((try dsimp only); (try simp only [envL, lookV, if_true, if_false]); (try go_simp); (try with_reducible rfl)))
            (try simp only [Act.put, List.setIfInBounds_toArray, List.set_cons_zero, List.set_cons_succ, List.getElem_toArray, List.getElem_cons_succ, List.getElem_cons_zero])
            refine wpAnyJ_takeG (i := 6) (oi := { dst := some 75 , op := Go.Op.fieldAddr 36 ( Go.Operand.tmp 3 ) 4 , type := 0 , pos := "ref.go:118" , after := #[ ] , guard := none }) (v := ?v6_41) hG hsel (by kernel_rfl) (by kernel_rfl) (by kernel_rfl) (by kernel_rfl) (fun _ _ _ h => h) (Or.inl (And.intro (by kernel_rfl) ?q6_41)) hS0 ?r6_41
            case q6_41 => intro w hx; refine run_env [3] [?a6_41_3] (by kernel_rfl) (by kernel_rfl) (⟨?e6_41_3, trivial⟩) ?h6_41; (case e6_41_3 => ((conv => lhs; whnf); (try exact rfl))); (case h6_41 => ((try dsimp only); (try simp only [envL, lookV, if_true, if_false]); (try go_simp); (try with_reducible rfl)))
            (try simp only [Act.put, List.setIfInBounds_toArray, List.set_cons_zero, List.set_cons_succ, List.getElem_toArray, List.getElem_cons_succ, List.getElem_cons_zero])
            refine wpAnyJ_takeG (i := 7) (oi := { dst := some 76 , op := Go.Op.load 34 ( Go.Operand.tmp 75 ) , type := 34 , pos := "ref.go:118" , after := #[ { on := 6 , ground := Go.Ground.data } ] , guard := none }) (v := ?v7_42) hG hsel (by kernel_rfl) (by kernel_rfl) (by kernel_rfl) (by kernel_rfl) (fun _ _ _ h => h) (Or.inl (And.intro (by kernel_rfl) ?q7_42)) hS0 ?r7_42
            case q7_42 => intro w hx; refine run_env [75] [?a7_42_75] (by kernel_rfl) (by kernel_rfl) (⟨?e7_42_75, trivial⟩) ?h7_42; (case e7_42_75 => ((conv => lhs; whnf); (try exact rfl))); (case h7_42 => ((try dsimp only); (try simp only [envL, lookV, if_true, if_false]); (try go_simp); (try with_reducible rfl)))
            (try simp only [Act.put, List.setIfInBounds_toArray, List.set_cons_zero, List.set_cons_succ, List.getElem_toArray, List.getElem_cons_succ, List.getElem_cons_zero])
            refine wpAnyJ_takeG (i := 8) (oi := { dst := some 77 , op := Go.Op.move ( Go.Operand.tmp 9 ) , type := 3 , pos := "ref.go:118" , after := #[ ] , guard := none }) (v := ?v8_43) hG hsel (by kernel_rfl) (by kernel_rfl) (by kernel_rfl) (by kernel_rfl) (fun _ _ _ h => h) (Or.inl (And.intro (by kernel_rfl) ?q8_43)) hS0 ?r8_43
            case q8_43 => intro w hx; refine run_env [9] [?a8_43_9] (by kernel_rfl) (by kernel_rfl) (⟨?e8_43_9, trivial⟩) ?h8_43; (case e8_43_9 => ((conv => lhs; whnf); (try exact rfl))); (case h8_43 => ((try dsimp only); (try simp only [envL, lookV, if_true, if_false]); (try go_simp); (try with_reducible rfl)))
            (try simp only [Act.put, List.setIfInBounds_toArray, List.set_cons_zero, List.set_cons_succ, List.getElem_toArray, List.getElem_cons_succ, List.getElem_cons_zero])
            refine wpAnyJ_takeG (i := 9) (oi := { dst := some 78 , op := Go.Op.indexAddr 34 ( Go.Operand.tmp 76 ) ( Go.Operand.tmp 77 ) , type := 0 , pos := "ref.go:118" , after := #[ { on := 7 , ground := Go.Ground.data } , { on := 8 , ground := Go.Ground.data } ] , guard := none }) (v := ?v9_44) hG hsel (by kernel_rfl) (by kernel_rfl) (by kernel_rfl) (by kernel_rfl) (fun _ _ _ h => h) (Or.inl (And.intro (by kernel_rfl) ?q9_44)) hS0 ?r9_44
            case q9_44 => intro w hx; refine run_env [76, 77] [?a9_44_76, ?a9_44_77] (by kernel_rfl) (by kernel_rfl) (⟨?e9_44_76, ?e9_44_77, trivial⟩) ?h9_44; (case e9_44_76 => ((conv => lhs; whnf); (try exact rfl))); (case e9_44_77 => ((conv => lhs; whnf); (try exact rfl))); (case h9_44 => ((try dsimp only); (try simp only [envL, lookV, if_true, if_false]); (try go_simp); (try with_reducible rfl)))
            (try simp only [Act.put, List.setIfInBounds_toArray, List.set_cons_zero, List.set_cons_succ, List.getElem_toArray, List.getElem_cons_succ, List.getElem_cons_zero])
            refine wpAnyJ_takeG (i := 10) (oi := { dst := some 79 , op := Go.Op.fieldAddr 42 ( Go.Operand.tmp 78 ) 1 , type := 0 , pos := "ref.go:118" , after := #[ { on := 9 , ground := Go.Ground.data } ] , guard := none }) (v := ?v10_45) hG hsel (by kernel_rfl) (by kernel_rfl) (by kernel_rfl) (by kernel_rfl) (fun _ _ _ h => h) (Or.inl (And.intro (by kernel_rfl) ?q10_45)) hS0 ?r10_45
            case q10_45 => intro w hx; refine run_env [78] [?a10_45_78] (by kernel_rfl) (by kernel_rfl) (⟨?e10_45_78, trivial⟩) ?h10_45; (case e10_45_78 => ((conv => lhs; whnf); (try exact rfl))); (case h10_45 => ((try dsimp only); (try simp only [envL, lookV, if_true, if_false]); (try go_simp); (try with_reducible rfl)))
            (try simp only [Act.put, List.setIfInBounds_toArray, List.set_cons_zero, List.set_cons_succ, List.getElem_toArray, List.getElem_cons_succ, List.getElem_cons_zero])
            refine wpAnyJ_takeG (i := 11) (oi := { dst := some 80 , op := Go.Op.load 26 ( Go.Operand.tmp 79 ) , type := 26 , pos := "ref.go:118" , after := #[ { on := 10 , ground := Go.Ground.data } ] , guard := none }) (v := ?v11_46) hG hsel (by kernel_rfl) (by kernel_rfl) (by kernel_rfl) (by kernel_rfl) (fun _ _ _ h => h) (Or.inl (And.intro (by kernel_rfl) ?q11_46)) hS0 ?r11_46
            case q11_46 => intro w hx; refine run_env [79] [?a11_46_79] (by kernel_rfl) (by kernel_rfl) (⟨?e11_46_79, trivial⟩) ?h11_46; (case e11_46_79 => ((conv => lhs; whnf); (try exact rfl))); (case h11_46 => ((try dsimp only); (try simp only [envL, lookV, if_true, if_false]); (try go_simp); (try with_reducible rfl)))
            (try simp only [Act.put, List.setIfInBounds_toArray, List.set_cons_zero, List.set_cons_succ, List.getElem_toArray, List.getElem_cons_succ, List.getElem_cons_zero])
            refine wpAnyJ_takeG (i := 12) (oi := { dst := some 81 , op := Go.Op.build 69 #[ ( 0 , Go.Operand.tmp 74 ) , ( 1 , Go.Operand.tmp 80 ) ] , type := 69 , pos := "ref.go:118" , after := #[ { on := 5 , ground := Go.Ground.data } , { on := 11 , ground := Go.Ground.data } ] , guard := none }) (v := ?v12_47) hG hsel (by kernel_rfl) (by kernel_rfl) (by kernel_rfl) (by kernel_rfl) (fun _ _ _ h => h) (Or.inl (And.intro (by kernel_rfl) ?q12_47)) hS0 ?r12_47
            case q12_47 => intro w hx; refine run_env [74, 80] [?a12_47_74, ?a12_47_80] (by kernel_rfl) (by kernel_rfl) (⟨?e12_47_74, ?e12_47_80, trivial⟩) ?h12_47; (case e12_47_74 => ((conv => lhs; whnf); (try exact rfl))); (case e12_47_80 => ((conv => lhs; whnf); (try exact rfl))); (case h12_47 => ((try dsimp only); (try simp only [envL, lookV, if_true, if_false]); (try go_simp); (try with_reducible rfl)))
            (try simp only [Act.put, List.setIfInBounds_toArray, List.set_cons_zero, List.set_cons_succ, List.getElem_toArray, List.getElem_cons_succ, List.getElem_cons_zero])
            refine wpAnyJ_ready (rs := [13]) (by kernel_rfl) (by simp) ?_
            refine (AllReadyJ.cons rfl (fun K hK => ?_) AllReadyJ.nil)
            rw [if_pos (by kernel_rfl)]
            (try simp only [List.getElem_toArray, List.getElem_cons_succ, List.getElem_cons_zero])
            (focus go_simp)
            refine hK.out _ _ ?hs (fun hS0 => ?_)
            case hs => (first | with_reducible exact hS0 | with_reducible exact st | exact Only.then hS0 (fresh_below _ _))
            clear hK K
            (try simp only [Act.put, List.setIfInBounds_toArray, List.set_cons_zero, List.set_cons_succ, List.getElem_toArray, List.getElem_cons_succ, List.getElem_cons_zero])
            refine wpAnyJ_ready (rs := [14]) (by kernel_rfl) (by simp) ?_
            refine (AllReadyJ.cons rfl (fun K hK => ?_) AllReadyJ.nil)
            (focus (refine RowK.step_app (K := dholdK) rfl (.tmp 70) (.tmp 82) rfl _ _ rfl rfl (holdsL (q.ws.take kk) (os.take kk)) [holdOf r t] (RowK.Own.below (RowK.Own.below GZ.out.own (Below.drew (Below.refl _ _))) (fresh_below _ _)) (RowK.Read.one (Cells.new _ _ _)) (by rw [holdsL_len _ _ (by simp; omega)]; simp; omega) ?_; intro A1 n1 w9 o9 g9' h9; rw [HLN.out] at o9 h9 ⊢; have st := Only.app hS0 g9' (fun j e => Or.inl (by rw [HFE.out]; exact e))))
            (focus (try go_wp2_with fail))
            refine hK.out _ _ ?hs (fun hS0 => ?_)
            case hs => (first | with_reducible exact hS0 | with_reducible exact st | exact Only.then hS0 (fresh_below _ _))
            clear hK K
            (try simp only [Act.put, List.setIfInBounds_toArray, List.set_cons_zero, List.set_cons_succ, List.getElem_toArray, List.getElem_cons_succ, List.getElem_cons_zero])
            refine wpAnyJ_takeG (i := 15) (oi := { dst := some 84 , op := Go.Op.fieldAddr 51 ( Go.Operand.tmp 8 ) 4 , type := 0 , pos := "ref.go:118" , after := #[ { on := 0 , ground := Go.Ground.phase } , { on := 1 , ground := Go.Ground.phase } , { on := 2 , ground := Go.Ground.phase } , { on := 3 , ground := Go.Ground.phase } , { on := 4 , ground := Go.Ground.phase } , { on := 5 , ground := Go.Ground.phase } , { on := 6 , ground := Go.Ground.phase } , { on := 7 , ground := Go.Ground.phase } , { on := 8 , ground := Go.Ground.phase } , { on := 9 , ground := Go.Ground.phase } , { on := 10 , ground := Go.Ground.phase } , { on := 11 , ground := Go.Ground.phase } , { on := 12 , ground := Go.Ground.phase } , { on := 13 , ground := Go.Ground.phase } , { on := 14 , ground := Go.Ground.phase } ] , guard := none }) (v := ?v15_48) hG hsel (by kernel_rfl) (by kernel_rfl) (by kernel_rfl) (by kernel_rfl) (fun _ _ _ h => h) (Or.inl (And.intro (by kernel_rfl) ?q15_48)) hS0 ?r15_48
            case q15_48 => intro w hx; refine run_env [8] [?a15_48_8] (by kernel_rfl) (by kernel_rfl) (⟨?e15_48_8, trivial⟩) ?h15_48; (case e15_48_8 => ((conv => lhs; whnf); (try exact rfl))); (case h15_48 => ((try dsimp only); (try simp only [envL, lookV, if_true, if_false]); (try go_simp); (try with_reducible rfl)))
            (try simp only [Act.put, List.setIfInBounds_toArray, List.set_cons_zero, List.set_cons_succ, List.getElem_toArray, List.getElem_cons_succ, List.getElem_cons_zero])
            refine wpAnyJ_ready (rs := [16]) (by kernel_rfl) (by simp) ?_
            refine (AllReadyJ.last rfl (by kernel_rfl) (fun K hK => ?_) AllReadyJ.nil)
            (focus (rw [if_pos (by kernel_rfl)]; have y9 := q8 _ hS0; have f9' := f8 _ hS0; go_simp))
            (focus (try go_wp2_with fail))
            refine hK.out _ _ ?_
            clear hK K
            (try simp only [Act.put, List.setIfInBounds_toArray, List.set_cons_zero, List.set_cons_succ, List.getElem_toArray, List.getElem_cons_succ, List.getElem_cons_zero])
            refine wpAnyJ_done (by kernel_rfl) ?_ _
          have gr2 : Grow dholdK wq g8 (fun v => #[.int .u8 q.x.p, .int .u32 q.x.si, .int .u16 q.x.sp, .int .u32 q.x.di, .int .u16 q.x.dp, .int .u8 q.x.p, .int .u32 q.di, .int .u16 q.dp, .int .u32 o0.a, .int .u16 o0.p, .int .i64 q.st, .int .i64 0, v]) 51 (holdsL (q.ws.take (kk + 1)) (os.take (kk + 1))) _ (w9.setCell ⟨g8, 12, none⟩ (.slice A1 (kk + 1) n1)) := Grow.step (l := holdsL (q.ws.take kk) (os.take kk)) GZ.out (fun u v => by simp) (by rw [HFE.out] at hS0; exact hS0) (by rw [holdsL_snoc _ _ hl hlo, ← HR.out, ← HTT.out]; exact o9) (by
            rcases h9 with e | e
            · exact Or.inl e
            · exact Or.inr (fun j k => by rw [e] at k; cases k; simp))
          have GR2 := hide gr2
          clear g9' h9 o9 t0 t1 t2 t3 t4 q8 f8 bb s12 gr2 hS0 GZ K0Z LZ HFE HFG HB HRW0 HRP0 HR HTT HLN st
          generalize (w9.setCell ⟨g8, 12, none⟩ (.slice A1 (kk + 1) n1)) = w10 at *
          go_wp2_with fail
          go_roundg (n - (kk + 1))
          case measure => omega
          case rel => exact ⟨kk + 1, by omega, by omega, by go_num, (show Aside _ from ⟨_, by have h := GR2.out; rw [← DA1.out kk, ← DP1.out kk] at h; exact h⟩), (show Aside _ from FT3.out)⟩
    · have hltz : ¬ (kk : Int) < (n : Int) := by omega
      have e0 : kk = n := by omega
      subst e0
      have FTA : fitsL q.ws os = true := by have := FT.out; rwa [List.take_of_length_le (by have := HN.out; omega), List.take_of_length_le (by have := HNO.out; omega)] at this
      have own := gr.own
      have hup := gr.up
      rw [List.take_of_length_le (by have := HN.out; omega), List.take_of_length_le (by have := HNO.out; omega)] at own
      obtain ⟨A2, c2, hV, hc2⟩ := own.slice
      rw [HLEN.out] at hV hc2
      subst hV
      have hrv := HRV.out
      rw [if_neg (by rw [FTA]; decide)] at hrv
      have HRW := hide hrv
      clear HRV hrv FTA
      have qk0_0 : ∀ W', Below wr.heap.size wr W' → World.cell? W' ⟨w.heap.size, 0, none⟩ = some (.int .u8 q.x.p) := fun W' h => Cells.at_ (Cells.below h k0) 0
      have qk0_1 : ∀ W', Below wr.heap.size wr W' → World.cell? W' ⟨w.heap.size, 1, none⟩ = some (.int .u32 q.x.si) := fun W' h => Cells.at_ (Cells.below h k0) 1
      have qk0_2 : ∀ W', Below wr.heap.size wr W' → World.cell? W' ⟨w.heap.size, 2, none⟩ = some (.int .u16 q.x.sp) := fun W' h => Cells.at_ (Cells.below h k0) 2
      have qk0_3 : ∀ W', Below wr.heap.size wr W' → World.cell? W' ⟨w.heap.size, 3, none⟩ = some (.int .u32 q.x.di) := fun W' h => Cells.at_ (Cells.below h k0) 3
      have qk0_4 : ∀ W', Below wr.heap.size wr W' → World.cell? W' ⟨w.heap.size, 4, none⟩ = some (.int .u16 q.x.dp) := fun W' h => Cells.at_ (Cells.below h k0) 4
      have qk0_5 : ∀ W', Below wr.heap.size wr W' → World.cell? W' ⟨w.heap.size, 5, none⟩ = some (.int .u32 q.di) := fun W' h => Cells.at_ (Cells.below h k0) 5
      have qk0_6 : ∀ W', Below wr.heap.size wr W' → World.cell? W' ⟨w.heap.size, 6, none⟩ = some (.int .u16 q.dp) := fun W' h => Cells.at_ (Cells.below h k0) 6
      have qk0_7 : ∀ W', Below wr.heap.size wr W' → World.cell? W' ⟨w.heap.size, 7, none⟩ = some (.bool true) := fun W' h => Cells.at_ (Cells.below h k0) 7
      have qk0_8 : ∀ W', Below wr.heap.size wr W' → World.cell? W' ⟨w.heap.size, 8, none⟩ = some (.int .i64 q.st) := fun W' h => Cells.at_ (Cells.below h k0) 8
      have qk0_9 : ∀ W', Below wr.heap.size wr W' → World.cell? W' ⟨w.heap.size, 9, none⟩ = some (.slice A kk c) := fun W' h => Cells.at_ (Cells.below h k0) 9
      have f9 : ∀ W', Below wr.heap.size wr W' → World.frozen? W' ⟨g8, 11, none⟩ = false := fun W' hW => (Cells.below hW kg).free 11
      have y9 : ∀ W', Below wr.heap.size wr W' → World.cell? W' ⟨g8, 11, none⟩ = some (.int .i64 0) := fun W' hW => (Cells.below hW kg).at_ 11
      have bb : Below wr.heap.size wr wr := Below.refl _ _
      have htb := HTB.out
      have n0 := N0.out; have n1 := N1.out
      have hwr : IntKind.i64.wrap (now + tv) = now + tv := IntWalk.i64_in _ (by omega)
      have c4 := fun W => d_Flow W q.x.p
      have c7 := fun W => d_Timeout W (flowV q.x.p) q.st
      rw [HTV.out] at c7
      have C4 := hide c4; have C7 := hide c7
      have KG := hide kg; have K1 := hide k1; have LWR := hide lw; have OW := hide own; have UP := hide hup
      clear c4 c7 k0 k1 kg lw own hup gr FT htb n0 n1
      go_upto_region 13 with fail
      have s14 : Below wr.heap.size wr wr.drew := Below.drew bb
      focus
        refine wp_region_J [10] (fun W => Below wr.heap.size wr W) (by kernel_rfl) (s14) (fun hS0 => ?_)
        obtain ⟨hG, hsel⟩ := okOps (md := .any) (ops := #[{ dst := some 85 , op := Go.Op.move ( Go.Operand.tmp 2 ) , type := 3 , pos := "ref.go:120" , after := #[ ] , guard := none }, { dst := some 86 , op := Go.Op.fieldAddr 36 ( Go.Operand.tmp 3 ) 0 , type := 0 , pos := "ref.go:120" , after := #[ ] , guard := none }, { dst := some 87 , op := Go.Op.fieldAddr 28 ( Go.Operand.tmp 86 ) 0 , type := 0 , pos := "ref.go:120" , after := #[ { on := 1 , ground := Go.Ground.data } ] , guard := none }, { dst := some 88 , op := Go.Op.load 5 ( Go.Operand.tmp 87 ) , type := 5 , pos := "ref.go:120" , after := #[ { on := 2 , ground := Go.Ground.data } ] , guard := none }, { dst := some 89 , op := Go.Op.call { callee := Go.Callee.value ( Go.Operand.func 19 ) , args := #[ Go.Operand.tmp 88 ] , argTypes := #[ 5 ] } , type := 3 , pos := "ref.go:120" , after := #[ { on := 3 , ground := Go.Ground.data } ] , guard := none }, { dst := some 90 , op := Go.Op.fieldAddr 36 ( Go.Operand.tmp 3 ) 3 , type := 0 , pos := "ref.go:120" , after := #[ ] , guard := none }, { dst := some 91 , op := Go.Op.load 3 ( Go.Operand.tmp 90 ) , type := 3 , pos := "ref.go:120" , after := #[ { on := 5 , ground := Go.Ground.data } ] , guard := none }, { dst := some 92 , op := Go.Op.call { callee := Go.Callee.value ( Go.Operand.func 18 ) , args := #[ Go.Operand.tmp 89 , Go.Operand.tmp 91 ] , argTypes := #[ 3 , 3 ] } , type := 3 , pos := "ref.go:120" , after := #[ { on := 4 , ground := Go.Ground.data } , { on := 6 , ground := Go.Ground.data } , { on := 4 , ground := Go.Ground.chain } ] , guard := none }, { dst := some 93 , op := Go.Op.binOp Go.BinOp.add 3 ( Go.Operand.tmp 85 ) ( Go.Operand.tmp 92 ) 3 , type := 3 , pos := "ref.go:120" , after := #[ { on := 0 , ground := Go.Ground.data } , { on := 7 , ground := Go.Ground.data } ] , guard := none }, { dst := some 94 , op := Go.Op.fieldAddr 51 ( Go.Operand.tmp 8 ) 3 , type := 0 , pos := "ref.go:120" , after := #[ { on := 0 , ground := Go.Ground.phase } , { on := 1 , ground := Go.Ground.phase } , { on := 2 , ground := Go.Ground.phase } , { on := 3 , ground := Go.Ground.phase } , { on := 4 , ground := Go.Ground.phase } , { on := 5 , ground := Go.Ground.phase } , { on := 6 , ground := Go.Ground.phase } , { on := 7 , ground := Go.Ground.phase } , { on := 8 , ground := Go.Ground.phase } ] , guard := none }, { dst := none , op := Go.Op.store 3 ( Go.Operand.tmp 94 ) ( Go.Operand.tmp 93 ) , type := 0 , pos := "ref.go:120" , after := #[ { on := 9 , ground := Go.Ground.data } , { on := 8 , ground := Go.Ground.data } , { on := 7 , ground := Go.Ground.chain } , { on := 0 , ground := Go.Ground.phase } , { on := 1 , ground := Go.Ground.phase } , { on := 2 , ground := Go.Ground.phase } , { on := 3 , ground := Go.Ground.phase } , { on := 4 , ground := Go.Ground.phase } , { on := 5 , ground := Go.Ground.phase } , { on := 6 , ground := Go.Ground.phase } , { on := 7 , ground := Go.Ground.phase } , { on := 8 , ground := Go.Ground.phase } ] , guard := none }]) (by kernel_rfl)
        refine wpAnyJ_takeG (i := 0) (oi := { dst := some 85 , op := Go.Op.move ( Go.Operand.tmp 2 ) , type := 3 , pos := "ref.go:120" , after := #[ ] , guard := none }) (v := ?v0_49) hG hsel (by kernel_rfl) (by kernel_rfl) (by kernel_rfl) (by kernel_rfl) (fun _ _ _ h => h) (Or.inl (And.intro (by kernel_rfl) ?q0_49)) hS0 ?r0_49
        case q0_49 => intro w hx; refine run_env [2] [?a0_49_2] (by kernel_rfl) (by kernel_rfl) (⟨?e0_49_2, trivial⟩) ?h0_49; (case e0_49_2 => ((conv => lhs; whnf); (try exact rfl))); (case h0_49 => ((try dsimp only); (try simp only [envL, lookV, if_true, if_false]); (try go_simp); (try with_reducible rfl)))
        (try simp only [Act.put, List.setIfInBounds_toArray, List.set_cons_zero, List.set_cons_succ, List.getElem_toArray, List.getElem_cons_succ, List.getElem_cons_zero])
        refine wpAnyJ_takeG (i := 1) (oi := { dst := some 86 , op := Go.Op.fieldAddr 36 ( Go.Operand.tmp 3 ) 0 , type := 0 , pos := "ref.go:120" , after := #[ ] , guard := none }) (v := ?v1_50) hG hsel (by kernel_rfl) (by kernel_rfl) (by kernel_rfl) (by kernel_rfl) (fun _ _ _ h => h) (Or.inl (And.intro (by kernel_rfl) ?q1_50)) hS0 ?r1_50
        case q1_50 => intro w hx; refine run_env [3] [?a1_50_3] (by kernel_rfl) (by kernel_rfl) (⟨?e1_50_3, trivial⟩) ?h1_50; (case e1_50_3 => ((conv => lhs; whnf); (try exact rfl))); (case h1_50 => ((try dsimp only); (try simp only [envL, lookV, if_true, if_false]); (try go_simp); (try with_reducible rfl)))
        (try simp only [Act.put, List.setIfInBounds_toArray, List.set_cons_zero, List.set_cons_succ, List.getElem_toArray, List.getElem_cons_succ, List.getElem_cons_zero])
        refine wpAnyJ_takeG (i := 2) (oi := { dst := some 87 , op := Go.Op.fieldAddr 28 ( Go.Operand.tmp 86 ) 0 , type := 0 , pos := "ref.go:120" , after := #[ { on := 1 , ground := Go.Ground.data } ] , guard := none }) (v := ?v2_51) hG hsel (by kernel_rfl) (by kernel_rfl) (by kernel_rfl) (by kernel_rfl) (fun _ _ _ h => h) (Or.inl (And.intro (by kernel_rfl) ?q2_51)) hS0 ?r2_51
        case q2_51 => intro w hx; refine run_env [86] [?a2_51_86] (by kernel_rfl) (by kernel_rfl) (⟨?e2_51_86, trivial⟩) ?h2_51; (case e2_51_86 => ((conv => lhs; whnf); (try exact rfl))); (case h2_51 => ((try dsimp only); (try simp only [envL, lookV, if_true, if_false]); (try go_simp); (try with_reducible rfl)))
        (try simp only [Act.put, List.setIfInBounds_toArray, List.set_cons_zero, List.set_cons_succ, List.getElem_toArray, List.getElem_cons_succ, List.getElem_cons_zero])
        refine wpAnyJ_takeG (i := 3) (oi := { dst := some 88 , op := Go.Op.load 5 ( Go.Operand.tmp 87 ) , type := 5 , pos := "ref.go:120" , after := #[ { on := 2 , ground := Go.Ground.data } ] , guard := none }) (v := ?v3_52) hG hsel (by kernel_rfl) (by kernel_rfl) (by kernel_rfl) (by kernel_rfl) (fun _ _ _ h => h) (Or.inl (And.intro (by kernel_rfl) ?q3_52)) hS0 ?r3_52
        case q3_52 => intro w hx; refine run_env [87] [?a3_52_87] (by kernel_rfl) (by kernel_rfl) (⟨?e3_52_87, trivial⟩) ?h3_52; (case e3_52_87 => ((conv => lhs; whnf); (try exact rfl))); (case h3_52 => ((try dsimp only); (try simp only [envL, lookV, if_true, if_false]); (try go_simp); (try with_reducible rfl)))
        (try simp only [Act.put, List.setIfInBounds_toArray, List.set_cons_zero, List.set_cons_succ, List.getElem_toArray, List.getElem_cons_succ, List.getElem_cons_zero])
        refine wpAnyJ_takeG (i := 5) (oi := { dst := some 90 , op := Go.Op.fieldAddr 36 ( Go.Operand.tmp 3 ) 3 , type := 0 , pos := "ref.go:120" , after := #[ ] , guard := none }) (v := ?v5_53) hG hsel (by kernel_rfl) (by kernel_rfl) (by kernel_rfl) (by kernel_rfl) (fun _ _ _ h => h) (Or.inl (And.intro (by kernel_rfl) ?q5_53)) hS0 ?r5_53
        case q5_53 => intro w hx; refine run_env [3] [?a5_53_3] (by kernel_rfl) (by kernel_rfl) (⟨?e5_53_3, trivial⟩) ?h5_53; (case e5_53_3 => ((conv => lhs; whnf); (try exact rfl))); (case h5_53 => ((try dsimp only); (try simp only [envL, lookV, if_true, if_false]); (try go_simp); (try with_reducible rfl)))
        (try simp only [Act.put, List.setIfInBounds_toArray, List.set_cons_zero, List.set_cons_succ, List.getElem_toArray, List.getElem_cons_succ, List.getElem_cons_zero])
        refine wpAnyJ_takeG (i := 6) (oi := { dst := some 91 , op := Go.Op.load 3 ( Go.Operand.tmp 90 ) , type := 3 , pos := "ref.go:120" , after := #[ { on := 5 , ground := Go.Ground.data } ] , guard := none }) (v := ?v6_54) hG hsel (by kernel_rfl) (by kernel_rfl) (by kernel_rfl) (by kernel_rfl) (fun _ _ _ h => h) (Or.inl (And.intro (by kernel_rfl) ?q6_54)) hS0 ?r6_54
        case q6_54 => intro w hx; refine run_env [90] [?a6_54_90] (by kernel_rfl) (by kernel_rfl) (⟨?e6_54_90, trivial⟩) ?h6_54; (case e6_54_90 => ((conv => lhs; whnf); (try exact rfl))); (case h6_54 => ((try dsimp only); (try simp only [envL, lookV, if_true, if_false]); (try go_simp); (try with_reducible rfl)))
        (try simp only [Act.put, List.setIfInBounds_toArray, List.set_cons_zero, List.set_cons_succ, List.getElem_toArray, List.getElem_cons_succ, List.getElem_cons_zero])
        refine wpAnyJ_ready (rs := [4]) (by kernel_rfl) (by simp) ?_
        refine (AllReadyJ.cons rfl (fun K hK => ?_) AllReadyJ.nil)
        rw [if_pos (by kernel_rfl)]
        (try simp only [List.getElem_toArray, List.getElem_cons_succ, List.getElem_cons_zero])
        (focus go_simp)
        (focus ((with_reducible refine (C4.out _).mono ?_); rintro e wq4 ⟨rfl, bq4⟩; have sq := bstep hS0 bq4))
        (focus (try go_wp2_with fail))
        refine hK.out _ _ ?hs (fun hS0 => ?_)
        case hs => (first | with_reducible exact hS0 | with_reducible exact sq)
        clear hK K
        (try simp only [Act.put, List.setIfInBounds_toArray, List.set_cons_zero, List.set_cons_succ, List.getElem_toArray, List.getElem_cons_succ, List.getElem_cons_zero])
        refine wpAnyJ_ready (rs := [7]) (by kernel_rfl) (by simp) ?_
        refine (AllReadyJ.cons rfl (fun K hK => ?_) AllReadyJ.nil)
        rw [if_pos (by kernel_rfl)]
        (try simp only [List.getElem_toArray, List.getElem_cons_succ, List.getElem_cons_zero])
        (focus go_simp)
        (focus ((with_reducible refine (C7.out _).mono ?_); rintro e wq7 ⟨rfl, bq7⟩; have sq := bstep hS0 bq7))
        (focus (try go_wp2_with fail))
        refine hK.out _ _ ?hs (fun hS0 => ?_)
        case hs => (first | with_reducible exact hS0 | with_reducible exact sq)
        clear hK K
        (try simp only [Act.put, List.setIfInBounds_toArray, List.set_cons_zero, List.set_cons_succ, List.getElem_toArray, List.getElem_cons_succ, List.getElem_cons_zero])
        refine wpAnyJ_takeG (i := 8) (oi := { dst := some 93 , op := Go.Op.binOp Go.BinOp.add 3 ( Go.Operand.tmp 85 ) ( Go.Operand.tmp 92 ) 3 , type := 3 , pos := "ref.go:120" , after := #[ { on := 0 , ground := Go.Ground.data } , { on := 7 , ground := Go.Ground.data } ] , guard := none }) (v := ?v8_55) hG hsel (by kernel_rfl) (by kernel_rfl) (by kernel_rfl) (by kernel_rfl) (fun _ _ _ h => h) (Or.inl (And.intro (by kernel_rfl) ?q8_55)) hS0 ?r8_55
        case q8_55 => intro w hx; refine run_env [85, 92] [?a8_55_85, ?a8_55_92] (by kernel_rfl) (by kernel_rfl) (⟨?e8_55_85, ?e8_55_92, trivial⟩) ?h8_55; (case e8_55_85 => ((conv => lhs; whnf); (try exact rfl))); (case e8_55_92 => ((conv => lhs; whnf); (try exact rfl))); (case h8_55 => ((try dsimp only); (try simp only [envL, lookV, if_true, if_false]); (try go_simp); (try with_reducible rfl)))
        (try simp only [Act.put, List.setIfInBounds_toArray, List.set_cons_zero, List.set_cons_succ, List.getElem_toArray, List.getElem_cons_succ, List.getElem_cons_zero])
        refine wpAnyJ_takeG (i := 9) (oi := { dst := some 94 , op := Go.Op.fieldAddr 51 ( Go.Operand.tmp 8 ) 3 , type := 0 , pos := "ref.go:120" , after := #[ { on := 0 , ground := Go.Ground.phase } , { on := 1 , ground := Go.Ground.phase } , { on := 2 , ground := Go.Ground.phase } , { on := 3 , ground := Go.Ground.phase } , { on := 4 , ground := Go.Ground.phase } , { on := 5 , ground := Go.Ground.phase } , { on := 6 , ground := Go.Ground.phase } , { on := 7 , ground := Go.Ground.phase } , { on := 8 , ground := Go.Ground.phase } ] , guard := none }) (v := ?v9_56) hG hsel (by kernel_rfl) (by kernel_rfl) (by kernel_rfl) (by kernel_rfl) (fun _ _ _ h => h) (Or.inl (And.intro (by kernel_rfl) ?q9_56)) hS0 ?r9_56
        case q9_56 => intro w hx; refine run_env [8] [?a9_56_8] (by kernel_rfl) (by kernel_rfl) (⟨?e9_56_8, trivial⟩) ?h9_56; (case e9_56_8 => ((conv => lhs; whnf); (try exact rfl))); (case h9_56 => ((try dsimp only); (try simp only [envL, lookV, if_true, if_false]); (try go_simp); (try with_reducible rfl)))
        (try simp only [Act.put, List.setIfInBounds_toArray, List.set_cons_zero, List.set_cons_succ, List.getElem_toArray, List.getElem_cons_succ, List.getElem_cons_zero])
        refine wpAnyJ_ready (rs := [10]) (by kernel_rfl) (by simp) ?_
        refine (AllReadyJ.last rfl (by kernel_rfl) (fun K hK => ?_) AllReadyJ.nil)
        (focus (rw [if_pos (by kernel_rfl)]; have y9' := y9 _ hS0; have f9' := f9 _ hS0; go_simp))
        (focus (try go_wp2_with fail))
        refine hK.out _ _ ?_
        clear hK K
        (try simp only [Act.put, List.setIfInBounds_toArray, List.set_cons_zero, List.set_cons_succ, List.getElem_toArray, List.getElem_cons_succ, List.getElem_cons_zero])
        refine wpAnyJ_done (by kernel_rfl) ?_ _
      have hg9s : g8 < wr.heap.size := Cells.lt KG.out
      have kx : Cells (wq7.setCell ⟨g8, 11, none⟩ (.int .i64 (now + tv))) g8 #[.int .u8 q.x.p, .int .u32 q.x.si, .int .u16 q.x.sp, .int .u32 q.x.di, .int .u16 q.x.dp, .int .u8 q.x.p, .int .u32 q.di, .int .u16 q.dp, .int .u32 (dA kk), .int .u16 (dP kk), .int .i64 q.st, .int .i64 (now + tv), .slice A2 kk c2] 51 := Cells.like (Cells.set_ (Cells.below hS0 KG.out) 11 (.int .i64 (now + tv))) (by simp)
      have lx : Below w.heap.size w (wq7.setCell ⟨g8, 11, none⟩ (.int .i64 (now + tv))) := Below.setCell (bstep LWR.out hS0) (by show w.heap.size ≤ g8; omega) _
      have k1x := Cells.other (Cells.below hS0 K1.out) (by omega : w.heap.size + 1 ≠ g8) 11 (.int .i64 (now + tv))
      have owx := Own.set (OW.out.below hS0) g8 11 (.int .i64 (now + tv)) (fun e => by have := UP.out _ e; omega)
      clear y9 f9 bb s14 qk0_0 qk0_1 qk0_2 qk0_3 qk0_4 qk0_5 qk0_6 qk0_7 qk0_8 qk0_9
      have KX := hide kx; have LX := hide lx; have K1X := hide k1x; have OWX := hide owx
      clear kx lx k1x owx hS0 sq bq4 KG K1 LWR OW C4 C7
      generalize (wq7.setCell ⟨g8, 11, none⟩ (.int .i64 (now + tv))) = wx at *
      have ck := fun W => d_eMay W ENT A2 kk c2 (by rw [HENT.out]; exact HLEN.out.symm) (by omega)
      rw [HENT.out] at ck
      simp only at ck
      rw [← HENT.out] at ck
      have CK := hide ck
      clear ck
      go_upto_region 14 with fail
      refine wp_region_lit ?_
      refine wpList_load_all rfl 51 (.tmp 8) rfl KX.out (by rfl) _ Tryd.underlying51 rfl (by kernel_rfl) ?_
      obtain ⟨me, hme⟩ : ∃ me, entMay ENT = me := ⟨_, rfl⟩
      have CK2 := CK.out
      rw [hme] at CK2
      have hrv := HRW.out
      rw [hme] at hrv
      clear CK hme HRW
      have CK := hide CK2; have HRX := hide hrv
      clear CK2 hrv
      cases me
      · have er : RV = (zeroE, 2) := HRX.out
        clear HRX
        subst er
        go_upto_region 15 with (go_at_call 20; (with_reducible refine (CK.out _).mono ?_); rintro e wc ⟨rfl, bc⟩)
        have HZ := hide (Cells.below bc K1X.out); have LW := hide (bstep LX.out bc)
        clear bc KX K1X LX OWX CK
        go_upto_region 15 with fail
        refine wp_region_lit ?_
        refine wpList_plain rfl fun K hK => ?_; go_simp; refine hK _ _ ?_; clear hK K
        refine wpList_store_all rfl 51 (.tmp 6) (.tmp 98) rfl HZ.out (by rfl) (by rfl) (by kernel_rfl) rfl (by simp [Value.oneCell']) ?_
        intro W5 r5 o5 z5
        go_wp2_with fail
        (try simp only [Exit.inBlock, Exit.then])
        refine bodyPost_ret (res_cell_tmp Tryd.results9 r5 (by rfl) (by rfl) _ Tryd.underlying51 rfl (by kernel_rfl)) rfl ?_
        exact ⟨.slice none 0 0, rfl, RowK.Own.nil _, (fun g e => by cases e), LW.out.trans (o5.below (fun j e => by omega) LW.out.size)⟩
      · have hrv := HRX.out
        rw [if_neg (by decide), HENT.out] at hrv
        clear HRX
        subst hrv
        go_upto_region 16 with (go_at_call 20; (with_reducible refine (CK.out _).mono ?_); rintro e wc ⟨rfl, bc⟩)
        have KC := hide (Cells.below bc KX.out); have HZ := hide (Cells.below bc K1X.out); have LW := hide (bstep LX.out bc); have OC := hide (OWX.out.below bc)
        clear bc KX K1X LX OWX CK
        refine wp_region_lit ?_
        refine wpList_load_all rfl 51 (.tmp 8) rfl KC.out (by rfl) _ Tryd.underlying51 rfl (by kernel_rfl) ?_
        (try simp only [Act.put, List.setIfInBounds_toArray, List.set_cons_zero, List.set_cons_succ])
        refine wpList_store_all rfl 51 (.tmp 6) (.tmp 99) rfl (c' := #[.int .u8 q.x.p, .int .u32 q.x.si, .int .u16 q.x.sp, .int .u32 q.x.di, .int .u16 q.x.dp, .int .u8 q.x.p, .int .u32 q.di, .int .u16 q.dp, .int .u32 (dA kk), .int .u16 (dP kk), .int .i64 q.st, .int .i64 (now + tv), .slice A2 kk c2]) HZ.out (by rfl) (by rfl) (by kernel_rfl) rfl (by simp [Value.oneCell']) ?_
        intro W5 r5 o5 z5
        go_wp2_with fail
        (try simp only [Exit.inBlock, Exit.then])
        refine bodyPost_ret (res_cell_tmp Tryd.results9 r5 (by rfl) (by rfl) _ Tryd.underlying51 rfl (by kernel_rfl)) rfl ?_
        exact ⟨_, rfl, Own.other OC.out o5 (fun e => by have := UP.out _ e; omega), (fun j e => by have := UP.out _ e; omega), LW.out.trans (o5.below (fun j e => by omega) LW.out.size)⟩
end Go.Proofs.YtilfcikhipadpaaDoor
end
