/- Several texts of this claim, one behind the other. -/
import Derived.Test.YtilfcikhipadpaaDoorM14
import Derived.Test.YtilfcikhipadpaaDoorM16

section
/- binds: route. -/
set_option linter.unusedVariables false
set_option linter.unusedSimpArgs false
namespace Go.Proofs.YtilfcikhipadpaaDoor
open Go.RowKit Go.Lib
attribute [local go_sem] Oper.semAt_some

def wantK : RowK Wnt where
  k := 8
  T := 40
  S := 29
  bytes := 28
  z := .agg zeroW.cells
  cells := Wnt.cells
  size := fun _ => rfl
  one := fun a v hv => by
    simp only [Wnt.cells, List.mem_cons, List.not_mem_nil, or_false] at hv
    rcases hv with h | h | h | h | h | h | h | h <;> (subst h; rfl)
  pos := by decide
  tS := by kernel_rfl
  info := by kernel_rfl
  zs := rfl
  few := by decide
/-- what a first packet may become -/
structure Pln where
  x : Btw
  di : Int
  dp : Int
  src : Bool
  st : Int
  ws : List Wnt
def zeroP : Pln := ⟨⟨0, 0, 0, 0, 0⟩, 0, 0, false, 0, []⟩
/-- a plan's cells, its wants lying at v -/
def Pln.cells (q : Pln) (v : Value) : Array Value := #[.int .u8 q.x.p, .int .u32 q.x.si, .int .u16 q.x.sp, .int .u32 q.x.di, .int .u16 q.x.dp, .int .u32 q.di, .int .u16 q.dp, .bool q.src, .int .i64 q.st, v]
def wantOf (r : Rule) (x : Btw) : Wnt := ⟨true, r.ia, r.ip, x.di, x.dp, 0, 0, 0⟩
/-- where a packet goes, and what it wants; a reason, if it may not -/
def routeV (o ip b : Int) (l : List Rule) (x : Btw) : Pln × Int :=
  if (hasP ip b x.si && (hasP ip b x.di || (l.any (stP x.p x.di x.dp) && ((firstR o (stP x.p x.di x.dp) l).ia == x.si && (firstR o (stP x.p x.di x.dp) l).ip == x.sp)))) = true then (zeroP, 9)
  else if (!l.any (stP x.p x.di x.dp) && (!hasP ip b x.si || outR o l x.di)) = true then (zeroP, 10)
  else if (hasP ip b x.si && !(outwardV o l x).2) = true then (zeroP, 10)
  else (⟨x, if l.any (stP x.p x.di x.dp) = true then (firstR o (stP x.p x.di x.dp) l).ia else x.di, if l.any (stP x.p x.di x.dp) = true then (firstR o (stP x.p x.di x.dp) l).ip else x.dp, hasP ip b x.si, 0,
    (if hasP ip b x.si = true then [(outwardV o l x).1] else []) ++ (if l.any (stP x.p x.di x.dp) = true then [wantOf (firstR o (stP x.p x.di x.dp) l) x] else [])⟩, 0)
theorem Only.app {X : Nat → Prop} {A W W' : World} {row : Option Nat} (h : Only X A W) (k : W.grownBy W' row) (hr : ∀ g, row = some g → X g ∨ A.heap.size ≤ g) : Only X A W' :=
  ⟨k.1.trans h.os, k.2.trans h.tape, k.3.trans h.output, Nat.le_trans h.size k.4, fun i hi hx => (k.5 i (Nat.lt_of_lt_of_le hi h.size) (fun e => by
    rcases hr i e.symm with q | q
    · exact hx q
    · omega)).trans (h.block i hi hx)⟩
theorem Cells.like {w : World} {b : Nat} {cs cs' : Array Value} {T : TypeId} (h : Cells w b cs T) (e : cs = cs') : Cells w b cs' T := e ▸ h
theorem Own.set {α : Type} {K : RowK α} {W : World} {v : Value} {l : List α} (h : K.Own W v l) (b j : Nat) (u : Value) (hb : v.ownBlock ≠ some b) : K.Own (W.setCell ⟨b, j, none⟩ u) v l := h.same fun g hg => Below.heap_setCell W ⟨b, j, none⟩ u g (fun e => hb (by rw [hg]; exact congrArg some e))
theorem Own.other {α : Type} {K : RowK α} {W W' : World} {v : Value} {l : List α} {b : Nat} (h : K.Own W v l) (k : Only (fun i => i = b) W W') (hb : v.ownBlock ≠ some b) : K.Own W' v l := h.same fun g hg => k.block g (h.row hg) (fun e => hb (by rw [hg]; exact congrArg some e))
/-- what the last append of route asks of the world -/
structure Keep14 (w : World) (g6 g7 : Nat) (x : Btw) (R1 : Rule) (sr : Bool) (V0 : Value) (W : World) : Prop where
  b : Below w.heap.size w W
  c0 : Cells W w.heap.size #[.int .u8 x.p, .int .u32 x.si, .int .u16 x.sp, .int .u32 x.di, .int .u16 x.dp] 28
  c1 : Cells W (w.heap.size + 1) #[.int .u8 0, .int .u32 0, .int .u16 0, .int .u32 0, .int .u16 0, .int .u32 0, .int .u16 0, .bool false, .int .i64 0, .slice none 0 0] 31
  c7 : Cells W g7 #[.int .i64 R1.k, .int .u8 R1.p, .int .u32 R1.sa, .int .i64 R1.sb, .int .u32 R1.da, .int .i64 R1.db, .int .u32 R1.e, .int .u16 R1.f, .int .u16 R1.t, .int .u32 R1.ia, .int .u16 R1.ip] 77
  c6 : ∃ a b : Int, Cells W g6 #[.int .u8 x.p, .int .u32 x.si, .int .u16 x.sp, .int .u32 x.di, .int .u16 x.dp, .int .u32 a, .int .u16 b, .bool sr, .int .i64 0, V0] 31
theorem Keep14.below {w : World} {g6 g7 : Nat} {x : Btw} {R1 : Rule} {sr : Bool} {V0 : Value} {W W' : World} (h : Keep14 w g6 g7 x R1 sr V0 W) (k : Below W.heap.size W W') : Keep14 w g6 g7 x R1 sr V0 W' := by
  obtain ⟨h1, h2, h2', h3, a, b, h4⟩ := h
  exact ⟨bstep h1 k, Cells.below k h2, Cells.below k h2', Cells.below k h3, a, b, Cells.below k h4⟩
theorem Keep14.app {w : World} {g6 g7 : Nat} {x : Btw} {R1 : Rule} {sr : Bool} {V0 : Value} {W W' : World} {row : Option Nat} (h : Keep14 w g6 g7 x R1 sr V0 W) (k : W.grownBy W' row) (h6 : w.heap.size + 1 < g6) (hr : ∀ g, row = some g → g6 < g ∧ g ≠ g7) : Keep14 w g6 g7 x R1 sr V0 W' := by
  obtain ⟨h1, h2, h2', h3, a, b, h4⟩ := h
  have ho : Only (fun i => row = some i) W W' := Only.app (Only.refl _ _) k (fun g hg => Or.inl hg)
  exact ⟨h1.trans (ho.below (fun g hg => by have := (hr g hg).1; omega) h1.size), Cells.only h2 ho (fun e => by have := (hr _ e).1; omega), Cells.only h2' ho (fun e => by have := (hr _ e).1; omega), Cells.only h3 ho (fun e => (hr _ e).2 rfl), a, b, Cells.only h4 ho (fun e => by have := (hr _ e).1; omega)⟩
theorem Keep14.dest {w : World} {g6 g7 : Nat} {x : Btw} {R1 : Rule} {sr : Bool} {V0 : Value} {W : World} (h : Keep14 w g6 g7 x R1 sr V0 W) (h67 : g6 ≠ g7) (h6 : w.heap.size + 1 < g6) (a b : Int) : Keep14 w g6 g7 x R1 sr V0 ((W.setCell ⟨g6, 5, none⟩ (.int .u32 a)).setCell ⟨g6, 6, none⟩ (.int .u16 b)) := by
  obtain ⟨h1, h2, h2', h3, a', b', h4⟩ := h
  exact ⟨Below.setCell (Below.setCell h1 (by show w.heap.size ≤ g6; omega) _) (by show w.heap.size ≤ g6; omega) _, Cells.other (Cells.other h2 (by omega) _ _) (by omega) _ _, Cells.other (Cells.other h2' (by omega) _ _) (by omega) _ _, Cells.other (Cells.other h3 (fun e => h67 e.symm) _ _) (fun e => h67 e.symm) _ _, a, b, Cells.like (Cells.set_ (Cells.set_ h4 5 (.int .u32 a)) 6 (.int .u16 b)) (by simp)⟩
/-- what route leaves -/
def Routed (w : World) (q : Pln × Int) (e : Ending) (w' : World) : Prop := ∃ v', e = .returned (.tuple #[.agg (q.1.cells v'), .int .i64 q.2]) ∧ wantK.Own w' v' q.1.ws ∧ (∀ g, v'.ownBlock = some g → w.heap.size ≤ g) ∧ Below w.heap.size w w'

set_option maxHeartbeats 8000000 in
set_option maxRecDepth 100000 in
theorem b_route (w : World) (B : Nat) (o ip b : Int) (v : Value) (l : List Rule) (h : TS w B o ip b l v) (hl : l.length ≤ 1000) (hok : ∀ r ∈ l, r.Ok) (hip : 0 ≤ ip ∧ ip ≤ 4294967295) (x : Btw) (hx : x.Ok) :
    Calls Tryd.prog 23 #[.pointer (some ⟨B, 0, none⟩), .agg #[.int .u8 x.p, .int .u32 x.si, .int .u16 x.sp, .int .u32 x.di, .int .u16 x.dp]] w (Routed w (routeV o ip b l x)) := by
  have c0 := fun W (hW : Below w.heap.size w W) => t_Static W B o ip b v l (h.below hW) hl x.p x.di x.dp
  have c1 := fun W (hW : Below w.heap.size w W) => t_Inner W B o ip b x.si v (h.below hW).tbl hip hx.si
  have c2 := fun W (hW : Below w.heap.size w W) => t_Inner W B o ip b x.di v (h.below hW).tbl hip hx.di
  have c3 := fun W (hW : Below w.heap.size w W) => t_Outer W B o ip b v l x.di (h.below hW) hl
  have c4 := fun W (hW : Below w.heap.size w W) => b_outward W B o ip b v l (h.below hW) hl hok x.p x.si x.sp x.di x.dp hx.si hx.di
  unfold routeV
  rw [show (⟨x.p, x.si, x.sp, x.di, x.dp⟩ : Btw) = x from rfl] at c4
  obtain ⟨wn, hwn⟩ : ∃ wn, wn = (outwardV o l x).1 := ⟨_, rfl⟩
  obtain ⟨xo, hxo⟩ : ∃ xo, xo = (outwardV o l x).2 := ⟨_, rfl⟩
  rw [← hwn, ← hxo] at c4 ⊢
  generalize firstR o (stP x.p x.di x.dp) l = R1 at *
  generalize l.any (stP x.p x.di x.dp) = xs at *
  generalize hasP ip b x.si = wi at *
  generalize hasP ip b x.di = wd at *
  generalize outR o l x.di = xu at *
  obtain ⟨e1, he1⟩ : ∃ e1, (R1.ia == x.si) = e1 := ⟨_, rfl⟩
  obtain ⟨e2, he2⟩ : ∃ e2, (R1.ip == x.sp) = e2 := ⟨_, rfl⟩
  rw [he1, he2]
  unfold Rule.cells at c0
  unfold Wnt.cells at c4
  have C0 := hide c0; have C1 := hide c1; have C2 := hide c2; have C3 := hide c3; have C4 := hide c4
  clear c0 c1 c2 c3 c4 h hl hok hip hx hwn hxo
  go_enter Tryd.func23, Tryd.ntmps23
  have d0 := Cells.new w #[.int .u8 x.p, .int .u32 x.si, .int .u16 x.sp, .int .u32 x.di, .int .u16 x.dp] 28
  replace d0 := Cells.below (fresh_below (w.alloc (.cells #[.int .u8 x.p, .int .u32 x.si, .int .u16 x.sp, .int .u32 x.di, .int .u16 x.dp] 28)) (.cells #[.int .u8 0, .int .u32 0, .int .u16 0, .int .u32 0, .int .u16 0, .int .u32 0, .int .u16 0, .bool false, .int .i64 0, .slice none 0 0] 31)) d0
  have d1 := Cells.new (w.alloc (.cells #[.int .u8 x.p, .int .u32 x.si, .int .u16 x.sp, .int .u32 x.di, .int .u16 x.dp] 28)) #[.int .u8 0, .int .u32 0, .int .u16 0, .int .u32 0, .int .u16 0, .int .u32 0, .int .u16 0, .bool false, .int .i64 0, .slice none 0 0] 31
  have l0 : Below w.heap.size w ((w.alloc (.cells #[.int .u8 x.p, .int .u32 x.si, .int .u16 x.sp, .int .u32 x.di, .int .u16 x.dp] 28)).alloc (.cells #[.int .u8 0, .int .u32 0, .int .u16 0, .int .u32 0, .int .u16 0, .int .u32 0, .int .u16 0, .bool false, .int .i64 0, .slice none 0 0] 31)) := (bstep (fresh_below _ _) (fresh_below _ _))
  simp only [World.size_alloc] at d1
  have L0 := hide l0; have D0 := hide d0; have D1 := hide d1
  clear l0 d0 d1
  go_upto_region 1 with fail
  have l0 := L0.out; have d0 := D0.out; have d1 := D1.out
  clear L0 D0 D1
  generalize ((w.alloc (.cells #[.int .u8 x.p, .int .u32 x.si, .int .u16 x.sp, .int .u32 x.di, .int .u16 x.dp] 28)).alloc (.cells #[.int .u8 0, .int .u32 0, .int .u16 0, .int .u32 0, .int .u16 0, .int .u32 0, .int .u16 0, .bool false, .int .i64 0, .slice none 0 0] 31)) = w1 at *
  have qd0_0 : ∀ W', Below w1.heap.size w1 W' → World.cell? W' ⟨w.heap.size, 0, none⟩ = some (.int .u8 x.p) := fun W' h => Cells.at_ (Cells.below h d0) 0
  have qd0_1 : ∀ W', Below w1.heap.size w1 W' → World.cell? W' ⟨w.heap.size, 1, none⟩ = some (.int .u32 x.si) := fun W' h => Cells.at_ (Cells.below h d0) 1
  have qd0_2 : ∀ W', Below w1.heap.size w1 W' → World.cell? W' ⟨w.heap.size, 2, none⟩ = some (.int .u16 x.sp) := fun W' h => Cells.at_ (Cells.below h d0) 2
  have qd0_3 : ∀ W', Below w1.heap.size w1 W' → World.cell? W' ⟨w.heap.size, 3, none⟩ = some (.int .u32 x.di) := fun W' h => Cells.at_ (Cells.below h d0) 3
  have qd0_4 : ∀ W', Below w1.heap.size w1 W' → World.cell? W' ⟨w.heap.size, 4, none⟩ = some (.int .u16 x.dp) := fun W' h => Cells.at_ (Cells.below h d0) 4
  have qd1_0 : ∀ W', Below w1.heap.size w1 W' → World.cell? W' ⟨w.heap.size + 1, 0, none⟩ = some (.int .u8 0) := fun W' h => Cells.at_ (Cells.below h d1) 0
  have qd1_1 : ∀ W', Below w1.heap.size w1 W' → World.cell? W' ⟨w.heap.size + 1, 1, none⟩ = some (.int .u32 0) := fun W' h => Cells.at_ (Cells.below h d1) 1
  have qd1_2 : ∀ W', Below w1.heap.size w1 W' → World.cell? W' ⟨w.heap.size + 1, 2, none⟩ = some (.int .u16 0) := fun W' h => Cells.at_ (Cells.below h d1) 2
  have qd1_3 : ∀ W', Below w1.heap.size w1 W' → World.cell? W' ⟨w.heap.size + 1, 3, none⟩ = some (.int .u32 0) := fun W' h => Cells.at_ (Cells.below h d1) 3
  have qd1_4 : ∀ W', Below w1.heap.size w1 W' → World.cell? W' ⟨w.heap.size + 1, 4, none⟩ = some (.int .u16 0) := fun W' h => Cells.at_ (Cells.below h d1) 4
  have qd1_5 : ∀ W', Below w1.heap.size w1 W' → World.cell? W' ⟨w.heap.size + 1, 5, none⟩ = some (.int .u32 0) := fun W' h => Cells.at_ (Cells.below h d1) 5
  have qd1_6 : ∀ W', Below w1.heap.size w1 W' → World.cell? W' ⟨w.heap.size + 1, 6, none⟩ = some (.int .u16 0) := fun W' h => Cells.at_ (Cells.below h d1) 6
  have qd1_7 : ∀ W', Below w1.heap.size w1 W' → World.cell? W' ⟨w.heap.size + 1, 7, none⟩ = some (.bool false) := fun W' h => Cells.at_ (Cells.below h d1) 7
  have qd1_8 : ∀ W', Below w1.heap.size w1 W' → World.cell? W' ⟨w.heap.size + 1, 8, none⟩ = some (.int .i64 0) := fun W' h => Cells.at_ (Cells.below h d1) 8
  have qd1_9 : ∀ W', Below w1.heap.size w1 W' → World.cell? W' ⟨w.heap.size + 1, 9, none⟩ = some (.slice none 0 0) := fun W' h => Cells.at_ (Cells.below h d1) 9
  have bb : Below w1.heap.size w1 w1 := Below.refl _ _
  have L0 := hide l0; have D0 := hide d0; have D1 := hide d1
  clear l0 d0 d1
  clear qd0_0 qd0_1 qd0_2 qd0_3 qd0_4 qd1_0 qd1_1 qd1_2 qd1_3 qd1_4 qd1_5 qd1_6 qd1_7 qd1_8 qd1_9 bb
  have d0 := D0.out
  have xd0_0 : w1.cell? ⟨w.heap.size, 0, none⟩ = some (.int .u8 x.p) := d0.at_ 0
  have xd0_1 : w1.cell? ⟨w.heap.size, 1, none⟩ = some (.int .u32 x.si) := d0.at_ 1
  have xd0_2 : w1.cell? ⟨w.heap.size, 2, none⟩ = some (.int .u16 x.sp) := d0.at_ 2
  have xd0_3 : w1.cell? ⟨w.heap.size, 3, none⟩ = some (.int .u32 x.di) := d0.at_ 3
  have xd0_4 : w1.cell? ⟨w.heap.size, 4, none⟩ = some (.int .u16 x.dp) := d0.at_ 4
  clear d0
  go_upto_region 2 with fail
  clear xd0_0 xd0_1 xd0_2 xd0_3 xd0_4
  have nn := Cells.new w1 #[.int .u8 x.p, .int .u32 x.si, .int .u16 x.sp, .int .u32 x.di, .int .u16 x.dp, .int .u32 x.di, .int .u16 x.dp, .bool false, .int .i64 0, .slice none 0 0] 31
  have bn := fresh_below w1 (.cells #[.int .u8 x.p, .int .u32 x.si, .int .u16 x.sp, .int .u32 x.di, .int .u16 x.dp, .int .u32 x.di, .int .u16 x.dp, .bool false, .int .i64 0, .slice none 0 0] 31)
  have hg6 : w.heap.size + 1 < w1.heap.size := Cells.lt D1.out
  replace D0 := hide (Cells.below bn D0.out); replace D1 := hide (Cells.below bn D1.out); replace L0 := hide (bstep L0.out bn)
  clear bn
  generalize w1.heap.size = g6 at nn hg6 ⊢
  generalize (w1.alloc (.cells #[.int .u8 x.p, .int .u32 x.si, .int .u16 x.sp, .int .u32 x.di, .int .u16 x.dp, .int .u32 x.di, .int .u16 x.dp, .bool false, .int .i64 0, .slice none 0 0] 31)) = w5 at *
  have D6 := hide nn; have HG6 := hide hg6
  clear nn hg6
  have ud0 := D0.out
  have xud0_0 : w5.cell? ⟨w.heap.size, 0, none⟩ = some (.int .u8 x.p) := ud0.at_ 0
  have xud0_1 : w5.cell? ⟨w.heap.size, 1, none⟩ = some (.int .u32 x.si) := ud0.at_ 1
  have xud0_2 : w5.cell? ⟨w.heap.size, 2, none⟩ = some (.int .u16 x.sp) := ud0.at_ 2
  have xud0_3 : w5.cell? ⟨w.heap.size, 3, none⟩ = some (.int .u32 x.di) := ud0.at_ 3
  have xud0_4 : w5.cell? ⟨w.heap.size, 4, none⟩ = some (.int .u16 x.dp) := ud0.at_ 4
  clear ud0
  go_upto_region 3 with (go_at_call 36; (with_reducible refine (C0.out _ L0.out).mono ?_); rintro e2 w2 ⟨rfl, b2⟩)
  clear xud0_0 xud0_1 xud0_2 xud0_3 xud0_4
  have nn := Cells.new w2 #[.int .i64 R1.k, .int .u8 R1.p, .int .u32 R1.sa, .int .i64 R1.sb, .int .u32 R1.da, .int .i64 R1.db, .int .u32 R1.e, .int .u16 R1.f, .int .u16 R1.t, .int .u32 R1.ia, .int .u16 R1.ip] 77
  have bn : Below w5.heap.size w5 (w2.alloc (.cells #[.int .i64 R1.k, .int .u8 R1.p, .int .u32 R1.sa, .int .i64 R1.sb, .int .u32 R1.da, .int .i64 R1.db, .int .u32 R1.e, .int .u16 R1.f, .int .u16 R1.t, .int .u32 R1.ia, .int .u16 R1.ip] 77)) := bstep b2 (fresh_below _ _)
  replace D0 := hide (Cells.below bn D0.out)
  replace D1 := hide (Cells.below bn D1.out)
  replace D6 := hide (Cells.below bn D6.out)
  replace L0 := hide (bstep L0.out bn)
  clear bn b2
  generalize w2.heap.size = g7 at nn ⊢
  generalize (w2.alloc (.cells #[.int .i64 R1.k, .int .u8 R1.p, .int .u32 R1.sa, .int .i64 R1.sb, .int .u32 R1.da, .int .i64 R1.db, .int .u32 R1.e, .int .u16 R1.f, .int .u16 R1.t, .int .u32 R1.ia, .int .u16 R1.ip] 77)) = w6 at *
  have kg7 := Cells.lt nn
  have D7 := hide nn
  clear nn
  have ud0 := D0.out
  have xud0_0 : w6.cell? ⟨w.heap.size, 0, none⟩ = some (.int .u8 x.p) := ud0.at_ 0
  have xud0_1 : w6.cell? ⟨w.heap.size, 1, none⟩ = some (.int .u32 x.si) := ud0.at_ 1
  have xud0_2 : w6.cell? ⟨w.heap.size, 2, none⟩ = some (.int .u16 x.sp) := ud0.at_ 2
  have xud0_3 : w6.cell? ⟨w.heap.size, 3, none⟩ = some (.int .u32 x.di) := ud0.at_ 3
  have xud0_4 : w6.cell? ⟨w.heap.size, 4, none⟩ = some (.int .u16 x.dp) := ud0.at_ 4
  clear ud0
  go_upto_region 4 with (go_at_call 37; (with_reducible refine (C1.out _ L0.out).mono ?_); rintro e2 w2 ⟨rfl, b2⟩)
  clear xud0_0 xud0_1 xud0_2 xud0_3 xud0_4
  have bn := b2
  replace D0 := hide (Cells.below bn D0.out)
  replace D1 := hide (Cells.below bn D1.out)
  replace D6 := hide (Cells.below bn D6.out)
  replace D7 := hide (Cells.below bn D7.out)
  replace L0 := hide (bstep L0.out bn)
  clear bn b2
  generalize w2 = w7 at *
  have d0 := D0.out; have d1 := D1.out; have d6 := D6.out; have d7 := D7.out
  have qd0_0 : ∀ W', Below w7.heap.size w7 W' → World.cell? W' ⟨w.heap.size, 0, none⟩ = some (.int .u8 x.p) := fun W' h => Cells.at_ (Cells.below h d0) 0
  have qd0_1 : ∀ W', Below w7.heap.size w7 W' → World.cell? W' ⟨w.heap.size, 1, none⟩ = some (.int .u32 x.si) := fun W' h => Cells.at_ (Cells.below h d0) 1
  have qd0_2 : ∀ W', Below w7.heap.size w7 W' → World.cell? W' ⟨w.heap.size, 2, none⟩ = some (.int .u16 x.sp) := fun W' h => Cells.at_ (Cells.below h d0) 2
  have qd0_3 : ∀ W', Below w7.heap.size w7 W' → World.cell? W' ⟨w.heap.size, 3, none⟩ = some (.int .u32 x.di) := fun W' h => Cells.at_ (Cells.below h d0) 3
  have qd0_4 : ∀ W', Below w7.heap.size w7 W' → World.cell? W' ⟨w.heap.size, 4, none⟩ = some (.int .u16 x.dp) := fun W' h => Cells.at_ (Cells.below h d0) 4
  have qd1_0 : ∀ W', Below w7.heap.size w7 W' → World.cell? W' ⟨w.heap.size + 1, 0, none⟩ = some (.int .u8 0) := fun W' h => Cells.at_ (Cells.below h d1) 0
  have qd1_1 : ∀ W', Below w7.heap.size w7 W' → World.cell? W' ⟨w.heap.size + 1, 1, none⟩ = some (.int .u32 0) := fun W' h => Cells.at_ (Cells.below h d1) 1
  have qd1_2 : ∀ W', Below w7.heap.size w7 W' → World.cell? W' ⟨w.heap.size + 1, 2, none⟩ = some (.int .u16 0) := fun W' h => Cells.at_ (Cells.below h d1) 2
  have qd1_3 : ∀ W', Below w7.heap.size w7 W' → World.cell? W' ⟨w.heap.size + 1, 3, none⟩ = some (.int .u32 0) := fun W' h => Cells.at_ (Cells.below h d1) 3
  have qd1_4 : ∀ W', Below w7.heap.size w7 W' → World.cell? W' ⟨w.heap.size + 1, 4, none⟩ = some (.int .u16 0) := fun W' h => Cells.at_ (Cells.below h d1) 4
  have qd1_5 : ∀ W', Below w7.heap.size w7 W' → World.cell? W' ⟨w.heap.size + 1, 5, none⟩ = some (.int .u32 0) := fun W' h => Cells.at_ (Cells.below h d1) 5
  have qd1_6 : ∀ W', Below w7.heap.size w7 W' → World.cell? W' ⟨w.heap.size + 1, 6, none⟩ = some (.int .u16 0) := fun W' h => Cells.at_ (Cells.below h d1) 6
  have qd1_7 : ∀ W', Below w7.heap.size w7 W' → World.cell? W' ⟨w.heap.size + 1, 7, none⟩ = some (.bool false) := fun W' h => Cells.at_ (Cells.below h d1) 7
  have qd1_8 : ∀ W', Below w7.heap.size w7 W' → World.cell? W' ⟨w.heap.size + 1, 8, none⟩ = some (.int .i64 0) := fun W' h => Cells.at_ (Cells.below h d1) 8
  have qd1_9 : ∀ W', Below w7.heap.size w7 W' → World.cell? W' ⟨w.heap.size + 1, 9, none⟩ = some (.slice none 0 0) := fun W' h => Cells.at_ (Cells.below h d1) 9
  have qd6_0 : ∀ W', Below w7.heap.size w7 W' → World.cell? W' ⟨g6, 0, none⟩ = some (.int .u8 x.p) := fun W' h => Cells.at_ (Cells.below h d6) 0
  have qd6_1 : ∀ W', Below w7.heap.size w7 W' → World.cell? W' ⟨g6, 1, none⟩ = some (.int .u32 x.si) := fun W' h => Cells.at_ (Cells.below h d6) 1
  have qd6_2 : ∀ W', Below w7.heap.size w7 W' → World.cell? W' ⟨g6, 2, none⟩ = some (.int .u16 x.sp) := fun W' h => Cells.at_ (Cells.below h d6) 2
  have qd6_3 : ∀ W', Below w7.heap.size w7 W' → World.cell? W' ⟨g6, 3, none⟩ = some (.int .u32 x.di) := fun W' h => Cells.at_ (Cells.below h d6) 3
  have qd6_4 : ∀ W', Below w7.heap.size w7 W' → World.cell? W' ⟨g6, 4, none⟩ = some (.int .u16 x.dp) := fun W' h => Cells.at_ (Cells.below h d6) 4
  have qd6_5 : ∀ W', Below w7.heap.size w7 W' → World.cell? W' ⟨g6, 5, none⟩ = some (.int .u32 x.di) := fun W' h => Cells.at_ (Cells.below h d6) 5
  have qd6_6 : ∀ W', Below w7.heap.size w7 W' → World.cell? W' ⟨g6, 6, none⟩ = some (.int .u16 x.dp) := fun W' h => Cells.at_ (Cells.below h d6) 6
  have qd6_7 : ∀ W', Below w7.heap.size w7 W' → World.cell? W' ⟨g6, 7, none⟩ = some (.bool false) := fun W' h => Cells.at_ (Cells.below h d6) 7
  have qd6_8 : ∀ W', Below w7.heap.size w7 W' → World.cell? W' ⟨g6, 8, none⟩ = some (.int .i64 0) := fun W' h => Cells.at_ (Cells.below h d6) 8
  have qd6_9 : ∀ W', Below w7.heap.size w7 W' → World.cell? W' ⟨g6, 9, none⟩ = some (.slice none 0 0) := fun W' h => Cells.at_ (Cells.below h d6) 9
  have qd7_0 : ∀ W', Below w7.heap.size w7 W' → World.cell? W' ⟨g7, 0, none⟩ = some (.int .i64 R1.k) := fun W' h => Cells.at_ (Cells.below h d7) 0
  have qd7_1 : ∀ W', Below w7.heap.size w7 W' → World.cell? W' ⟨g7, 1, none⟩ = some (.int .u8 R1.p) := fun W' h => Cells.at_ (Cells.below h d7) 1
  have qd7_2 : ∀ W', Below w7.heap.size w7 W' → World.cell? W' ⟨g7, 2, none⟩ = some (.int .u32 R1.sa) := fun W' h => Cells.at_ (Cells.below h d7) 2
  have qd7_3 : ∀ W', Below w7.heap.size w7 W' → World.cell? W' ⟨g7, 3, none⟩ = some (.int .i64 R1.sb) := fun W' h => Cells.at_ (Cells.below h d7) 3
  have qd7_4 : ∀ W', Below w7.heap.size w7 W' → World.cell? W' ⟨g7, 4, none⟩ = some (.int .u32 R1.da) := fun W' h => Cells.at_ (Cells.below h d7) 4
  have qd7_5 : ∀ W', Below w7.heap.size w7 W' → World.cell? W' ⟨g7, 5, none⟩ = some (.int .i64 R1.db) := fun W' h => Cells.at_ (Cells.below h d7) 5
  have qd7_6 : ∀ W', Below w7.heap.size w7 W' → World.cell? W' ⟨g7, 6, none⟩ = some (.int .u32 R1.e) := fun W' h => Cells.at_ (Cells.below h d7) 6
  have qd7_7 : ∀ W', Below w7.heap.size w7 W' → World.cell? W' ⟨g7, 7, none⟩ = some (.int .u16 R1.f) := fun W' h => Cells.at_ (Cells.below h d7) 7
  have qd7_8 : ∀ W', Below w7.heap.size w7 W' → World.cell? W' ⟨g7, 8, none⟩ = some (.int .u16 R1.t) := fun W' h => Cells.at_ (Cells.below h d7) 8
  have qd7_9 : ∀ W', Below w7.heap.size w7 W' → World.cell? W' ⟨g7, 9, none⟩ = some (.int .u32 R1.ia) := fun W' h => Cells.at_ (Cells.below h d7) 9
  have qd7_10 : ∀ W', Below w7.heap.size w7 W' → World.cell? W' ⟨g7, 10, none⟩ = some (.int .u16 R1.ip) := fun W' h => Cells.at_ (Cells.below h d7) 10
  have fz : ∀ W' i, Below w7.heap.size w7 W' → World.frozen? W' ⟨w.heap.size + 1, i, none⟩ = false := fun W' i h => Cells.free (Cells.below h D1.out) i
  have fz6 : ∀ W' i, Below w7.heap.size w7 W' → World.frozen? W' ⟨g6, i, none⟩ = false := fun W' i h => Cells.free (Cells.below h D6.out) i
  have bA : ∀ W o, Below w7.heap.size w7 W → Below w7.heap.size w7 (W.alloc o) := fun W o h => bstep h (fresh_below W o)
  have bb : Below w7.heap.size w7 w7 := Below.refl _ _
  clear d0 d1 d6 d7 C0 C1
  cases wi
  · cases xs
    · simp only [Bool.false_and, Bool.not_false, Bool.true_or, Bool.and_true, Bool.false_eq_true, if_false, if_true]
      go_wp2_with fail
      have d1 := Cells.below bb D1.out
      have l2 := bstep L0.out bb
      clear qd0_0 qd0_1 qd0_2 qd0_3 qd0_4 qd1_0 qd1_1 qd1_2 qd1_3 qd1_4 qd1_5 qd1_6 qd1_7 qd1_8 qd1_9 qd6_0 qd6_1 qd6_2 qd6_3 qd6_4 qd6_5 qd6_6 qd6_7 qd6_8 qd6_9 qd7_0 qd7_1 qd7_2 qd7_3 qd7_4 qd7_5 qd7_6 qd7_7 qd7_8 qd7_9 qd7_10 fz fz6 bA bb
      have r5 := (Cells.put10 d1 (.int .u8 0) (.int .u32 0) (.int .u16 0) (.int .u32 0) (.int .u16 0) (.int .u32 0) (.int .u16 0) (.bool false) (.int .i64 0) (.slice none 0 0))
      have b5 := (Below.put10 l2 (b := w.heap.size + 1) (by first | exact Nat.le_refl _ | omega) (.int .u8 0) (.int .u32 0) (.int .u16 0) (.int .u32 0) (.int .u16 0) (.int .u32 0) (.int .u16 0) (.bool false) (.int .i64 0) (.slice none 0 0))
      have HR5 := hide r5; have HB5 := hide b5
      clear r5 b5 d1
      generalize ((((((((((w7.setCell ⟨w.heap.size + 1, 0, none⟩ (.int .u8 0)).setCell ⟨w.heap.size + 1, 1, none⟩ (.int .u32 0)).setCell ⟨w.heap.size + 1, 2, none⟩ (.int .u16 0)).setCell ⟨w.heap.size + 1, 3, none⟩ (.int .u32 0)).setCell ⟨w.heap.size + 1, 4, none⟩ (.int .u16 0)).setCell ⟨w.heap.size + 1, 5, none⟩ (.int .u32 0)).setCell ⟨w.heap.size + 1, 6, none⟩ (.int .u16 0)).setCell ⟨w.heap.size + 1, 7, none⟩ (.bool false)).setCell ⟨w.heap.size + 1, 8, none⟩ (.int .i64 0)).setCell ⟨w.heap.size + 1, 9, none⟩ (.slice none 0 0)) = W5 at *
      have r5 := HR5.out; have b5 := HB5.out
      clear HR5 HB5
      have xr5_0 : W5.cell? ⟨w.heap.size + 1, 0, none⟩ = some (.int .u8 0) := r5.at_ 0
      have xr5_1 : W5.cell? ⟨w.heap.size + 1, 1, none⟩ = some (.int .u32 0) := r5.at_ 1
      have xr5_2 : W5.cell? ⟨w.heap.size + 1, 2, none⟩ = some (.int .u16 0) := r5.at_ 2
      have xr5_3 : W5.cell? ⟨w.heap.size + 1, 3, none⟩ = some (.int .u32 0) := r5.at_ 3
      have xr5_4 : W5.cell? ⟨w.heap.size + 1, 4, none⟩ = some (.int .u16 0) := r5.at_ 4
      have xr5_5 : W5.cell? ⟨w.heap.size + 1, 5, none⟩ = some (.int .u32 0) := r5.at_ 5
      have xr5_6 : W5.cell? ⟨w.heap.size + 1, 6, none⟩ = some (.int .u16 0) := r5.at_ 6
      have xr5_7 : W5.cell? ⟨w.heap.size + 1, 7, none⟩ = some (.bool false) := r5.at_ 7
      have xr5_8 : W5.cell? ⟨w.heap.size + 1, 8, none⟩ = some (.int .i64 0) := r5.at_ 8
      have xr5_9 : W5.cell? ⟨w.heap.size + 1, 9, none⟩ = some (.slice none 0 0) := r5.at_ 9
      (try simp only [Exit.inBlock, Exit.then]); refine bodyPost_ret (by simp [results, Tryd.results23, go_sem, *]; try rfl) rfl ?_
      exact ⟨_, rfl, RowK.Own.nil _, (fun g e => by cases e), b5⟩
    · simp only [Bool.false_and, Bool.not_true, Bool.false_eq_true, if_false, if_true, List.nil_append]
      go_upto_region 14 with fail
      have s14 : Keep14 w g6 g7 x R1 false (.slice none 0 0) w7.drew := ⟨L0.out.drew, Cells.drew D0.out, Cells.drew D1.out, Cells.drew D7.out, ⟨_, _, Cells.drew D6.out⟩⟩
      have hg67 : g6 ≠ g7 := fun e => by
        have h1 := D6.out; have h2 := D7.out
        rw [← e] at h2
        have h3 := h1.symm.trans h2
        simp at h3
      have hg6z : w.heap.size + 1 < g6 := HG6.out
      focus
        refine wp_region_J [14] (fun W => Keep14 w g6 g7 x R1 false (.slice none 0 0) W) (by kernel_rfl) (s14) (fun hS0 => ?_)
        refine wpAnyJ_take (i := 0) (v := ?v0_1) rfl (by kernel_rfl) (by kernel_rfl) (by kernel_rfl) (by kernel_rfl) (fun _ _ _ h => h) (Or.inl (And.intro (by kernel_rfl) ?q0_1)) hS0 ?r0_1; (case q0_1 => (intro w hx; obtain ⟨a6, b6, k6⟩ := hx.c6; have y0 := hx.c0.at_ 3; have y1 := hx.c0.at_ 4; have y2 := hx.c7.at_ 9; have y3 := hx.c7.at_ 10; have y4 := k6.at_ 9; (try dsimp only); (try go_simp); (try with_reducible rfl)))
        (try simp only [Act.put, List.setIfInBounds_toArray, List.set_cons_zero, List.set_cons_succ, List.getElem_toArray, List.getElem_cons_succ, List.getElem_cons_zero])
        refine wpAnyJ_take (i := 1) (v := ?v1_2) rfl (by kernel_rfl) (by kernel_rfl) (by kernel_rfl) (by kernel_rfl) (fun _ _ _ h => h) (Or.inl (And.intro (by kernel_rfl) ?q1_2)) hS0 ?r1_2; (case q1_2 => (intro w hx; obtain ⟨a6, b6, k6⟩ := hx.c6; have y0 := hx.c0.at_ 3; have y1 := hx.c0.at_ 4; have y2 := hx.c7.at_ 9; have y3 := hx.c7.at_ 10; have y4 := k6.at_ 9; (try dsimp only); (try go_simp); (try with_reducible rfl)))
        (try simp only [Act.put, List.setIfInBounds_toArray, List.set_cons_zero, List.set_cons_succ, List.getElem_toArray, List.getElem_cons_succ, List.getElem_cons_zero])
        refine wpAnyJ_take (i := 2) (v := ?v2_3) rfl (by kernel_rfl) (by kernel_rfl) (by kernel_rfl) (by kernel_rfl) (fun _ _ _ h => h) (Or.inl (And.intro (by kernel_rfl) ?q2_3)) hS0 ?r2_3; (case q2_3 => (intro w hx; obtain ⟨a6, b6, k6⟩ := hx.c6; have y0 := hx.c0.at_ 3; have y1 := hx.c0.at_ 4; have y2 := hx.c7.at_ 9; have y3 := hx.c7.at_ 10; have y4 := k6.at_ 9; (try dsimp only); (try go_simp); (try with_reducible rfl)))
        (try simp only [Act.put, List.setIfInBounds_toArray, List.set_cons_zero, List.set_cons_succ, List.getElem_toArray, List.getElem_cons_succ, List.getElem_cons_zero])
        refine wpAnyJ_take (i := 3) (v := ?v3_4) rfl (by kernel_rfl) (by kernel_rfl) (by kernel_rfl) (by kernel_rfl) (fun _ _ _ h => h) (Or.inl (And.intro (by kernel_rfl) ?q3_4)) hS0 ?r3_4; (case q3_4 => (intro w hx; obtain ⟨a6, b6, k6⟩ := hx.c6; have y0 := hx.c0.at_ 3; have y1 := hx.c0.at_ 4; have y2 := hx.c7.at_ 9; have y3 := hx.c7.at_ 10; have y4 := k6.at_ 9; (try dsimp only); (try go_simp); (try with_reducible rfl)))
        (try simp only [Act.put, List.setIfInBounds_toArray, List.set_cons_zero, List.set_cons_succ, List.getElem_toArray, List.getElem_cons_succ, List.getElem_cons_zero])
        refine wpAnyJ_take (i := 4) (v := ?v4_5) rfl (by kernel_rfl) (by kernel_rfl) (by kernel_rfl) (by kernel_rfl) (fun _ _ _ h => h) (Or.inl (And.intro (by kernel_rfl) ?q4_5)) hS0 ?r4_5; (case q4_5 => (intro w hx; obtain ⟨a6, b6, k6⟩ := hx.c6; have y0 := hx.c0.at_ 3; have y1 := hx.c0.at_ 4; have y2 := hx.c7.at_ 9; have y3 := hx.c7.at_ 10; have y4 := k6.at_ 9; (try dsimp only); (try go_simp); (try with_reducible rfl)))
        (try simp only [Act.put, List.setIfInBounds_toArray, List.set_cons_zero, List.set_cons_succ, List.getElem_toArray, List.getElem_cons_succ, List.getElem_cons_zero])
        refine wpAnyJ_take (i := 5) (v := ?v5_6) rfl (by kernel_rfl) (by kernel_rfl) (by kernel_rfl) (by kernel_rfl) (fun _ _ _ h => h) (Or.inl (And.intro (by kernel_rfl) ?q5_6)) hS0 ?r5_6; (case q5_6 => (intro w hx; obtain ⟨a6, b6, k6⟩ := hx.c6; have y0 := hx.c0.at_ 3; have y1 := hx.c0.at_ 4; have y2 := hx.c7.at_ 9; have y3 := hx.c7.at_ 10; have y4 := k6.at_ 9; (try dsimp only); (try go_simp); (try with_reducible rfl)))
        (try simp only [Act.put, List.setIfInBounds_toArray, List.set_cons_zero, List.set_cons_succ, List.getElem_toArray, List.getElem_cons_succ, List.getElem_cons_zero])
        refine wpAnyJ_take (i := 6) (v := ?v6_7) rfl (by kernel_rfl) (by kernel_rfl) (by kernel_rfl) (by kernel_rfl) (fun _ _ _ h => h) (Or.inl (And.intro (by kernel_rfl) ?q6_7)) hS0 ?r6_7; (case q6_7 => (intro w hx; obtain ⟨a6, b6, k6⟩ := hx.c6; have y0 := hx.c0.at_ 3; have y1 := hx.c0.at_ 4; have y2 := hx.c7.at_ 9; have y3 := hx.c7.at_ 10; have y4 := k6.at_ 9; (try dsimp only); (try go_simp); (try with_reducible rfl)))
        (try simp only [Act.put, List.setIfInBounds_toArray, List.set_cons_zero, List.set_cons_succ, List.getElem_toArray, List.getElem_cons_succ, List.getElem_cons_zero])
        refine wpAnyJ_take (i := 7) (v := ?v7_8) rfl (by kernel_rfl) (by kernel_rfl) (by kernel_rfl) (by kernel_rfl) (fun _ _ _ h => h) (Or.inl (And.intro (by kernel_rfl) ?q7_8)) hS0 ?r7_8; (case q7_8 => (intro w hx; obtain ⟨a6, b6, k6⟩ := hx.c6; have y0 := hx.c0.at_ 3; have y1 := hx.c0.at_ 4; have y2 := hx.c7.at_ 9; have y3 := hx.c7.at_ 10; have y4 := k6.at_ 9; (try dsimp only); (try go_simp); (try with_reducible rfl)))
        (try simp only [Act.put, List.setIfInBounds_toArray, List.set_cons_zero, List.set_cons_succ, List.getElem_toArray, List.getElem_cons_succ, List.getElem_cons_zero])
        refine wpAnyJ_take (i := 8) (v := ?v8_9) rfl (by kernel_rfl) (by kernel_rfl) (by kernel_rfl) (by kernel_rfl) (fun _ _ _ h => h) (Or.inl (And.intro (by kernel_rfl) ?q8_9)) hS0 ?r8_9; (case q8_9 => (intro w hx; obtain ⟨a6, b6, k6⟩ := hx.c6; have y0 := hx.c0.at_ 3; have y1 := hx.c0.at_ 4; have y2 := hx.c7.at_ 9; have y3 := hx.c7.at_ 10; have y4 := k6.at_ 9; (try dsimp only); (try go_simp); (try with_reducible rfl)))
        (try simp only [Act.put, List.setIfInBounds_toArray, List.set_cons_zero, List.set_cons_succ, List.getElem_toArray, List.getElem_cons_succ, List.getElem_cons_zero])
        refine wpAnyJ_take (i := 11) (v := ?v11_10) rfl (by kernel_rfl) (by kernel_rfl) (by kernel_rfl) (by kernel_rfl) (fun _ _ _ h => h) (Or.inl (And.intro (by kernel_rfl) ?q11_10)) hS0 ?r11_10; (case q11_10 => (intro w hx; obtain ⟨a6, b6, k6⟩ := hx.c6; have y0 := hx.c0.at_ 3; have y1 := hx.c0.at_ 4; have y2 := hx.c7.at_ 9; have y3 := hx.c7.at_ 10; have y4 := k6.at_ 9; (try dsimp only); (try go_simp); (try with_reducible rfl)))
        (try simp only [Act.put, List.setIfInBounds_toArray, List.set_cons_zero, List.set_cons_succ, List.getElem_toArray, List.getElem_cons_succ, List.getElem_cons_zero])
        refine wpAnyJ_ready (rs := [9]) (by kernel_rfl) (by simp) ?_
        refine (AllReadyJ.cons rfl (fun K hK => ?_) AllReadyJ.nil)
        rw [if_pos (by kernel_rfl)]
        (try simp only [List.getElem_toArray, List.getElem_cons_succ, List.getElem_cons_zero])
        (focus go_simp)
        refine hK.out _ _ ?hs (fun hS0 => ?_)
        case hs => (first | with_reducible exact hS0 | with_reducible exact sq | exact hS0.below (fresh_below _ _) | exact hS0.dest hg67 hg6z _ _)
        clear hK K
        (try simp only [Act.put, List.setIfInBounds_toArray, List.set_cons_zero, List.set_cons_succ, List.getElem_toArray, List.getElem_cons_succ, List.getElem_cons_zero])
        refine wpAnyJ_ready (rs := [10]) (by kernel_rfl) (by simp) ?_
        refine (AllReadyJ.cons rfl (fun K hK => ?_) AllReadyJ.nil)
        (focus (refine RowK.step_app (K := wantK) rfl (.tmp 86) (.tmp 92) rfl _ _ rfl rfl [] [wantOf R1 x] (RowK.Own.nil _) (RowK.Read.one (Cells.new _ _ _)) (by simp) ?_; intro A1 n1 w9 o9 g9 h9; have bq := Below.grown (Below.refl _ _) g9 (Nat.le_refl _) (fun k hk => by cases hk); have sq := hS0.below bq; have hz9 : g6 < _ := (by obtain ⟨a6, b6, k6⟩ := hS0.c6; exact Cells.lt k6); have hown : ∀ g, (Value.slice A1 ([] ++ [wantOf R1 x]).length n1).ownBlock = some g → g6 < g := (fun g hg => by rcases h9 with e | e; (rw [e] at hg; cases hg); (rw [e] at hg; cases hg; exact hz9))))
        (focus (try go_wp2_with fail))
        refine hK.out _ _ ?hs (fun hS0 => ?_)
        case hs => (first | with_reducible exact hS0 | with_reducible exact sq | exact hS0.below (fresh_below _ _) | exact hS0.dest hg67 hg6z _ _)
        clear hK K
        (try simp only [Act.put, List.setIfInBounds_toArray, List.set_cons_zero, List.set_cons_succ, List.getElem_toArray, List.getElem_cons_succ, List.getElem_cons_zero])
        refine wpAnyJ_ready (rs := [12]) (by kernel_rfl) (by simp) ?_
        refine (AllReadyJ.cons rfl (fun K hK => ?_) AllReadyJ.nil)
        (focus (rw [if_pos (by kernel_rfl)]; obtain ⟨a6, b6, k6⟩ := hS0.c6; have y5 := k6.at_ 5; have y6 := k6.at_ 6; have f5 := k6.free 5; have f6 := k6.free 6; go_simp))
        (focus (try go_wp2_with fail))
        refine hK.out _ _ ?hs (fun hS0 => ?_)
        case hs => (first | with_reducible exact hS0 | with_reducible exact sq | exact hS0.below (fresh_below _ _) | exact hS0.dest hg67 hg6z _ _)
        clear hK K
        (try simp only [Act.put, List.setIfInBounds_toArray, List.set_cons_zero, List.set_cons_succ, List.getElem_toArray, List.getElem_cons_succ, List.getElem_cons_zero])
        refine wpAnyJ_take (i := 13) (v := ?v13_11) rfl (by kernel_rfl) (by kernel_rfl) (by kernel_rfl) (by kernel_rfl) (fun _ _ _ h => h) (Or.inl (And.intro (by kernel_rfl) ?q13_11)) hS0 ?r13_11; (case q13_11 => (intro w hx; obtain ⟨a6, b6, k6⟩ := hx.c6; have y0 := hx.c0.at_ 3; have y1 := hx.c0.at_ 4; have y2 := hx.c7.at_ 9; have y3 := hx.c7.at_ 10; have y4 := k6.at_ 9; (try dsimp only); (try go_simp); (try with_reducible rfl)))
        (try simp only [Act.put, List.setIfInBounds_toArray, List.set_cons_zero, List.set_cons_succ, List.getElem_toArray, List.getElem_cons_succ, List.getElem_cons_zero])
        refine wpAnyJ_ready (rs := [14]) (by kernel_rfl) (by simp) ?_
        refine (AllReadyJ.last rfl (by kernel_rfl) (fun K hK => ?_) AllReadyJ.nil)
        (focus (rw [if_pos (by kernel_rfl)]; obtain ⟨a6, b6, k6⟩ := hS0.c6; have y9 := k6.at_ 9; have f9 := k6.free 9; go_simp))
        (focus (try go_wp2_with fail))
        refine hK.out _ _ ?_
        clear hK K
        (try simp only [Act.put, List.setIfInBounds_toArray, List.set_cons_zero, List.set_cons_succ, List.getElem_toArray, List.getElem_cons_succ, List.getElem_cons_zero])
        refine wpAnyJ_done (by kernel_rfl) ?_ _
      simp only [List.nil_append, List.length_cons, List.length_nil, Nat.zero_add] at o9 hown
      obtain ⟨a6, b6, k6⟩ := sq.c6
      have d6c : Cells (((w9.setCell ⟨g6, 5, none⟩ (.int .u32 R1.ia)).setCell ⟨g6, 6, none⟩ (.int .u16 R1.ip)).setCell ⟨g6, 9, none⟩ (.slice A1 1 n1)) g6 #[.int .u8 x.p, .int .u32 x.si, .int .u16 x.sp, .int .u32 x.di, .int .u16 x.dp, .int .u32 R1.ia, .int .u16 R1.ip, .bool false, .int .i64 0, .slice A1 1 n1] 31 := Cells.like (Cells.set_ (Cells.set_ (Cells.set_ k6 5 (.int .u32 R1.ia)) 6 (.int .u16 R1.ip)) 9 (.slice A1 1 n1)) (by simp)
      have d1c := Cells.other hS0.c1 (by omega : w.heap.size + 1 ≠ g6) 9 (.slice A1 1 n1)
      have hoff : (Value.slice A1 1 n1).ownBlock ≠ some g6 := fun e => by have := hown g6 e; omega
      have oc := Own.set (Own.set (Own.set o9 g6 5 (.int .u32 R1.ia) hoff) g6 6 (.int .u16 R1.ip) hoff) g6 9 (.slice A1 1 n1) hoff
      have lc : Below w.heap.size w (((w9.setCell ⟨g6, 5, none⟩ (.int .u32 R1.ia)).setCell ⟨g6, 6, none⟩ (.int .u16 R1.ip)).setCell ⟨g6, 9, none⟩ (.slice A1 1 n1)) := Below.setCell hS0.b (by show w.heap.size ≤ g6; omega) _
      have hown2 : ∀ g, (Value.slice A1 1 n1).ownBlock = some g → w.heap.size + 1 < g := fun g hg => by have := hown g hg; omega
      clear qd0_0 qd0_1 qd0_2 qd0_3 qd0_4 qd1_0 qd1_1 qd1_2 qd1_3 qd1_4 qd1_5 qd1_6 qd1_7 qd1_8 qd1_9 qd6_0 qd6_1 qd6_2 qd6_3 qd6_4 qd6_5 qd6_6 qd6_7 qd6_8 qd6_9 qd7_0 qd7_1 qd7_2 qd7_3 qd7_4 qd7_5 qd7_6 qd7_7 qd7_8 qd7_9 qd7_10 fz fz6 bA bb
      clear hS0 s14 sq bq g9 h9 o9 hown hz9 hoff k6 hg67
      generalize (((w9.setCell ⟨g6, 5, none⟩ (.int .u32 R1.ia)).setCell ⟨g6, 6, none⟩ (.int .u16 R1.ip)).setCell ⟨g6, 9, none⟩ (.slice A1 1 n1)) = w10 at *
      have xd6c_0 : w10.cell? ⟨g6, 0, none⟩ = some (.int .u8 x.p) := d6c.at_ 0
      have xd6c_1 : w10.cell? ⟨g6, 1, none⟩ = some (.int .u32 x.si) := d6c.at_ 1
      have xd6c_2 : w10.cell? ⟨g6, 2, none⟩ = some (.int .u16 x.sp) := d6c.at_ 2
      have xd6c_3 : w10.cell? ⟨g6, 3, none⟩ = some (.int .u32 x.di) := d6c.at_ 3
      have xd6c_4 : w10.cell? ⟨g6, 4, none⟩ = some (.int .u16 x.dp) := d6c.at_ 4
      have xd6c_5 : w10.cell? ⟨g6, 5, none⟩ = some (.int .u32 R1.ia) := d6c.at_ 5
      have xd6c_6 : w10.cell? ⟨g6, 6, none⟩ = some (.int .u16 R1.ip) := d6c.at_ 6
      have xd6c_7 : w10.cell? ⟨g6, 7, none⟩ = some (.bool false) := d6c.at_ 7
      have xd6c_8 : w10.cell? ⟨g6, 8, none⟩ = some (.int .i64 0) := d6c.at_ 8
      have xd6c_9 : w10.cell? ⟨g6, 9, none⟩ = some (.slice A1 1 n1) := d6c.at_ 9
      have xd1c_0 : w10.cell? ⟨w.heap.size + 1, 0, none⟩ = some (.int .u8 0) := d1c.at_ 0
      have xd1c_1 : w10.cell? ⟨w.heap.size + 1, 1, none⟩ = some (.int .u32 0) := d1c.at_ 1
      have xd1c_2 : w10.cell? ⟨w.heap.size + 1, 2, none⟩ = some (.int .u16 0) := d1c.at_ 2
      have xd1c_3 : w10.cell? ⟨w.heap.size + 1, 3, none⟩ = some (.int .u32 0) := d1c.at_ 3
      have xd1c_4 : w10.cell? ⟨w.heap.size + 1, 4, none⟩ = some (.int .u16 0) := d1c.at_ 4
      have xd1c_5 : w10.cell? ⟨w.heap.size + 1, 5, none⟩ = some (.int .u32 0) := d1c.at_ 5
      have xd1c_6 : w10.cell? ⟨w.heap.size + 1, 6, none⟩ = some (.int .u16 0) := d1c.at_ 6
      have xd1c_7 : w10.cell? ⟨w.heap.size + 1, 7, none⟩ = some (.bool false) := d1c.at_ 7
      have xd1c_8 : w10.cell? ⟨w.heap.size + 1, 8, none⟩ = some (.int .i64 0) := d1c.at_ 8
      have xd1c_9 : w10.cell? ⟨w.heap.size + 1, 9, none⟩ = some (.slice none 0 0) := d1c.at_ 9
      have yd1c_0 : w10.frozen? ⟨w.heap.size + 1, 0, none⟩ = false := d1c.free 0
      have yd1c_1 : w10.frozen? ⟨w.heap.size + 1, 1, none⟩ = false := d1c.free 1
      have yd1c_2 : w10.frozen? ⟨w.heap.size + 1, 2, none⟩ = false := d1c.free 2
      have yd1c_3 : w10.frozen? ⟨w.heap.size + 1, 3, none⟩ = false := d1c.free 3
      have yd1c_4 : w10.frozen? ⟨w.heap.size + 1, 4, none⟩ = false := d1c.free 4
      have yd1c_5 : w10.frozen? ⟨w.heap.size + 1, 5, none⟩ = false := d1c.free 5
      have yd1c_6 : w10.frozen? ⟨w.heap.size + 1, 6, none⟩ = false := d1c.free 6
      have yd1c_7 : w10.frozen? ⟨w.heap.size + 1, 7, none⟩ = false := d1c.free 7
      have yd1c_8 : w10.frozen? ⟨w.heap.size + 1, 8, none⟩ = false := d1c.free 8
      have yd1c_9 : w10.frozen? ⟨w.heap.size + 1, 9, none⟩ = false := d1c.free 9
      go_upto_region 15 with fail
      go_wp2_with fail
      clear xd6c_0 xd1c_0 yd1c_0 xd6c_1 xd1c_1 yd1c_1 xd6c_2 xd1c_2 yd1c_2 xd6c_3 xd1c_3 yd1c_3 xd6c_4 xd1c_4 yd1c_4 xd6c_5 xd1c_5 yd1c_5 xd6c_6 xd1c_6 yd1c_6 xd6c_7 xd1c_7 yd1c_7 xd6c_8 xd1c_8 yd1c_8 xd6c_9 xd1c_9 yd1c_9
      have q5 : Only (fun i => i = w.heap.size + 1) w10 ((((((((((w10.setCell ⟨w.heap.size + 1, 0, none⟩ (.int .u8 x.p)).setCell ⟨w.heap.size + 1, 1, none⟩ (.int .u32 x.si)).setCell ⟨w.heap.size + 1, 2, none⟩ (.int .u16 x.sp)).setCell ⟨w.heap.size + 1, 3, none⟩ (.int .u32 x.di)).setCell ⟨w.heap.size + 1, 4, none⟩ (.int .u16 x.dp)).setCell ⟨w.heap.size + 1, 5, none⟩ (.int .u32 R1.ia)).setCell ⟨w.heap.size + 1, 6, none⟩ (.int .u16 R1.ip)).setCell ⟨w.heap.size + 1, 7, none⟩ (.bool false)).setCell ⟨w.heap.size + 1, 8, none⟩ (.int .i64 0)).setCell ⟨w.heap.size + 1, 9, none⟩ (.slice A1 1 n1)) := by repeat' (first | with_reducible exact Only.refl _ _ | with_reducible refine Only.setAt ?_ _ _ (Or.inl rfl))
      have hoff : (Value.slice A1 1 n1).ownBlock ≠ some (w.heap.size + 1) := fun e => by have := hown2 _ e; omega
      have o5 := Own.other oc q5 hoff
      clear q5
      have r5 := (Cells.put10 d1c (.int .u8 x.p) (.int .u32 x.si) (.int .u16 x.sp) (.int .u32 x.di) (.int .u16 x.dp) (.int .u32 R1.ia) (.int .u16 R1.ip) (.bool false) (.int .i64 0) (.slice A1 1 n1))
      have b5 := (Below.put10 lc (b := w.heap.size + 1) (by first | exact Nat.le_refl _ | omega) (.int .u8 x.p) (.int .u32 x.si) (.int .u16 x.sp) (.int .u32 x.di) (.int .u16 x.dp) (.int .u32 R1.ia) (.int .u16 R1.ip) (.bool false) (.int .i64 0) (.slice A1 1 n1))
      have HR5 := hide r5; have HB5 := hide b5
      clear r5 b5 d1c
      generalize ((((((((((w10.setCell ⟨w.heap.size + 1, 0, none⟩ (.int .u8 x.p)).setCell ⟨w.heap.size + 1, 1, none⟩ (.int .u32 x.si)).setCell ⟨w.heap.size + 1, 2, none⟩ (.int .u16 x.sp)).setCell ⟨w.heap.size + 1, 3, none⟩ (.int .u32 x.di)).setCell ⟨w.heap.size + 1, 4, none⟩ (.int .u16 x.dp)).setCell ⟨w.heap.size + 1, 5, none⟩ (.int .u32 R1.ia)).setCell ⟨w.heap.size + 1, 6, none⟩ (.int .u16 R1.ip)).setCell ⟨w.heap.size + 1, 7, none⟩ (.bool false)).setCell ⟨w.heap.size + 1, 8, none⟩ (.int .i64 0)).setCell ⟨w.heap.size + 1, 9, none⟩ (.slice A1 1 n1)) = W5 at *
      have r5 := HR5.out; have b5 := HB5.out
      clear HR5 HB5
      have xr5_0 : W5.cell? ⟨w.heap.size + 1, 0, none⟩ = some (.int .u8 x.p) := r5.at_ 0
      have xr5_1 : W5.cell? ⟨w.heap.size + 1, 1, none⟩ = some (.int .u32 x.si) := r5.at_ 1
      have xr5_2 : W5.cell? ⟨w.heap.size + 1, 2, none⟩ = some (.int .u16 x.sp) := r5.at_ 2
      have xr5_3 : W5.cell? ⟨w.heap.size + 1, 3, none⟩ = some (.int .u32 x.di) := r5.at_ 3
      have xr5_4 : W5.cell? ⟨w.heap.size + 1, 4, none⟩ = some (.int .u16 x.dp) := r5.at_ 4
      have xr5_5 : W5.cell? ⟨w.heap.size + 1, 5, none⟩ = some (.int .u32 R1.ia) := r5.at_ 5
      have xr5_6 : W5.cell? ⟨w.heap.size + 1, 6, none⟩ = some (.int .u16 R1.ip) := r5.at_ 6
      have xr5_7 : W5.cell? ⟨w.heap.size + 1, 7, none⟩ = some (.bool false) := r5.at_ 7
      have xr5_8 : W5.cell? ⟨w.heap.size + 1, 8, none⟩ = some (.int .i64 0) := r5.at_ 8
      have xr5_9 : W5.cell? ⟨w.heap.size + 1, 9, none⟩ = some (.slice A1 1 n1) := r5.at_ 9
      (try simp only [Exit.inBlock, Exit.then]); refine bodyPost_ret (by simp [results, Tryd.results23, go_sem, *]; try rfl) rfl ?_
      (try simp only [Bool.true_and, Bool.false_and, Bool.and_true, Bool.and_false, Bool.false_or, Bool.or_false, Bool.true_or, Bool.or_true, Bool.not_true, Bool.not_false, Bool.false_eq_true, if_false, if_true, List.append_nil, List.nil_append])
      exact ⟨_, rfl, o5, (fun g e => Nat.le_of_lt (Nat.lt_of_succ_lt (hown2 g e))), b5⟩
  · cases wd
    · cases xs
      · cases xu
        · cases xo
          · simp only [Bool.true_and, Bool.false_and, Bool.false_or, Bool.not_true, Bool.not_false, Bool.false_eq_true, if_false, if_true]
            go_wp2_with (first | (go_at_call 37; (with_reducible refine (C2.out _ (bstep L0.out (by assumption))).mono ?_); rintro e2 w2 ⟨rfl, b2⟩; have b2' := bstep (by assumption : Below w7.heap.size w7 _) b2; clear b2) | (go_at_call 38; (with_reducible refine (C3.out _ (bstep L0.out (by assumption))).mono ?_); rintro e2 w2 ⟨rfl, b2⟩; have b2' := bstep (by assumption : Below w7.heap.size w7 _) b2; clear b2) | (go_at_call 39; (with_reducible refine (C4.out _ (bstep L0.out (by assumption))).mono ?_); rintro e2 w2 ⟨rfl, b2⟩; have b2' := bstep (by assumption : Below w7.heap.size w7 _) b2; clear b2))
            have d1 := Cells.below (bA _ (.cells #[.bool wn.fx, .int .u32 wn.ii, .int .u16 wn.ip, .int .u32 wn.oi, .int .u16 wn.op, .int .u32 wn.a, .int .u16 wn.f, .int .u16 wn.t] 40) b2') D1.out
            have l2 := bstep L0.out (bA _ (.cells #[.bool wn.fx, .int .u32 wn.ii, .int .u16 wn.ip, .int .u32 wn.oi, .int .u16 wn.op, .int .u32 wn.a, .int .u16 wn.f, .int .u16 wn.t] 40) b2')
            clear qd0_0 qd0_1 qd0_2 qd0_3 qd0_4 qd1_0 qd1_1 qd1_2 qd1_3 qd1_4 qd1_5 qd1_6 qd1_7 qd1_8 qd1_9 qd6_0 qd6_1 qd6_2 qd6_3 qd6_4 qd6_5 qd6_6 qd6_7 qd6_8 qd6_9 qd7_0 qd7_1 qd7_2 qd7_3 qd7_4 qd7_5 qd7_6 qd7_7 qd7_8 qd7_9 qd7_10 fz fz6 bA bb
            have r5 := (Cells.put10 d1 (.int .u8 0) (.int .u32 0) (.int .u16 0) (.int .u32 0) (.int .u16 0) (.int .u32 0) (.int .u16 0) (.bool false) (.int .i64 0) (.slice none 0 0))
            have b5 := (Below.put10 l2 (b := w.heap.size + 1) (by first | exact Nat.le_refl _ | omega) (.int .u8 0) (.int .u32 0) (.int .u16 0) (.int .u32 0) (.int .u16 0) (.int .u32 0) (.int .u16 0) (.bool false) (.int .i64 0) (.slice none 0 0))
            have HR5 := hide r5; have HB5 := hide b5
            clear r5 b5 d1
            generalize ((((((((((((w2.alloc (.cells #[.bool wn.fx, .int .u32 wn.ii, .int .u16 wn.ip, .int .u32 wn.oi, .int .u16 wn.op, .int .u32 wn.a, .int .u16 wn.f, .int .u16 wn.t] 40))).setCell ⟨w.heap.size + 1, 0, none⟩ (.int .u8 0)).setCell ⟨w.heap.size + 1, 1, none⟩ (.int .u32 0)).setCell ⟨w.heap.size + 1, 2, none⟩ (.int .u16 0)).setCell ⟨w.heap.size + 1, 3, none⟩ (.int .u32 0)).setCell ⟨w.heap.size + 1, 4, none⟩ (.int .u16 0)).setCell ⟨w.heap.size + 1, 5, none⟩ (.int .u32 0)).setCell ⟨w.heap.size + 1, 6, none⟩ (.int .u16 0)).setCell ⟨w.heap.size + 1, 7, none⟩ (.bool false)).setCell ⟨w.heap.size + 1, 8, none⟩ (.int .i64 0)).setCell ⟨w.heap.size + 1, 9, none⟩ (.slice none 0 0)) = W5 at *
            have r5 := HR5.out; have b5 := HB5.out
            clear HR5 HB5
            have xr5_0 : W5.cell? ⟨w.heap.size + 1, 0, none⟩ = some (.int .u8 0) := r5.at_ 0
            have xr5_1 : W5.cell? ⟨w.heap.size + 1, 1, none⟩ = some (.int .u32 0) := r5.at_ 1
            have xr5_2 : W5.cell? ⟨w.heap.size + 1, 2, none⟩ = some (.int .u16 0) := r5.at_ 2
            have xr5_3 : W5.cell? ⟨w.heap.size + 1, 3, none⟩ = some (.int .u32 0) := r5.at_ 3
            have xr5_4 : W5.cell? ⟨w.heap.size + 1, 4, none⟩ = some (.int .u16 0) := r5.at_ 4
            have xr5_5 : W5.cell? ⟨w.heap.size + 1, 5, none⟩ = some (.int .u32 0) := r5.at_ 5
            have xr5_6 : W5.cell? ⟨w.heap.size + 1, 6, none⟩ = some (.int .u16 0) := r5.at_ 6
            have xr5_7 : W5.cell? ⟨w.heap.size + 1, 7, none⟩ = some (.bool false) := r5.at_ 7
            have xr5_8 : W5.cell? ⟨w.heap.size + 1, 8, none⟩ = some (.int .i64 0) := r5.at_ 8
            have xr5_9 : W5.cell? ⟨w.heap.size + 1, 9, none⟩ = some (.slice none 0 0) := r5.at_ 9
            (try simp only [Exit.inBlock, Exit.then]); refine bodyPost_ret (by simp [results, Tryd.results23, go_sem, *]; try rfl) rfl ?_
            exact ⟨_, rfl, RowK.Own.nil _, (fun g e => by cases e), b5⟩
          · simp only [Bool.true_and, Bool.false_and, Bool.false_or, Bool.not_true, Bool.not_false, Bool.false_eq_true, if_false, if_true, List.append_nil]
            go_upto_region 12 with (first | (go_at_call 37; (with_reducible refine (C2.out _ (bstep L0.out (by assumption))).mono ?_); rintro e2 w2 ⟨rfl, b2⟩; have b2' := bstep (by assumption : Below w7.heap.size w7 _) b2; clear b2) | (go_at_call 38; (with_reducible refine (C3.out _ (bstep L0.out (by assumption))).mono ?_); rintro e2 w2 ⟨rfl, b2⟩; have b2' := bstep (by assumption : Below w7.heap.size w7 _) b2; clear b2) | (go_at_call 39; (with_reducible refine (C4.out _ (bstep L0.out (by assumption))).mono ?_); rintro e2 w2 ⟨rfl, b2⟩; have b2' := bstep (by assumption : Below w7.heap.size w7 _) b2; clear b2))
            have nn := Cells.new w2 #[.bool wn.fx, .int .u32 wn.ii, .int .u16 wn.ip, .int .u32 wn.oi, .int .u16 wn.op, .int .u32 wn.a, .int .u16 wn.f, .int .u16 wn.t] 40
            have bn : Below w7.heap.size w7 (w2.alloc (.cells #[.bool wn.fx, .int .u32 wn.ii, .int .u16 wn.ip, .int .u32 wn.oi, .int .u16 wn.op, .int .u32 wn.a, .int .u16 wn.f, .int .u16 wn.t] 40)) := bA _ _ b2'
            generalize w2.heap.size = g10 at nn ⊢
            generalize (w2.alloc (.cells #[.bool wn.fx, .int .u32 wn.ii, .int .u16 wn.ip, .int .u32 wn.oi, .int .u16 wn.op, .int .u32 wn.a, .int .u16 wn.f, .int .u16 wn.t] 40)) = w8 at *
            have d6 := Cells.below bn D6.out
            have xd6_0 : w8.cell? ⟨g6, 0, none⟩ = some (.int .u8 x.p) := d6.at_ 0
            have xd6_1 : w8.cell? ⟨g6, 1, none⟩ = some (.int .u32 x.si) := d6.at_ 1
            have xd6_2 : w8.cell? ⟨g6, 2, none⟩ = some (.int .u16 x.sp) := d6.at_ 2
            have xd6_3 : w8.cell? ⟨g6, 3, none⟩ = some (.int .u32 x.di) := d6.at_ 3
            have xd6_4 : w8.cell? ⟨g6, 4, none⟩ = some (.int .u16 x.dp) := d6.at_ 4
            have xd6_5 : w8.cell? ⟨g6, 5, none⟩ = some (.int .u32 x.di) := d6.at_ 5
            have xd6_6 : w8.cell? ⟨g6, 6, none⟩ = some (.int .u16 x.dp) := d6.at_ 6
            have xd6_7 : w8.cell? ⟨g6, 7, none⟩ = some (.bool false) := d6.at_ 7
            have xd6_8 : w8.cell? ⟨g6, 8, none⟩ = some (.int .i64 0) := d6.at_ 8
            have xd6_9 : w8.cell? ⟨g6, 9, none⟩ = some (.slice none 0 0) := d6.at_ 9
            have xnn_0 : w8.cell? ⟨g10, 0, none⟩ = some (.bool wn.fx) := nn.at_ 0
            have xnn_1 : w8.cell? ⟨g10, 1, none⟩ = some (.int .u32 wn.ii) := nn.at_ 1
            have xnn_2 : w8.cell? ⟨g10, 2, none⟩ = some (.int .u16 wn.ip) := nn.at_ 2
            have xnn_3 : w8.cell? ⟨g10, 3, none⟩ = some (.int .u32 wn.oi) := nn.at_ 3
            have xnn_4 : w8.cell? ⟨g10, 4, none⟩ = some (.int .u16 wn.op) := nn.at_ 4
            have xnn_5 : w8.cell? ⟨g10, 5, none⟩ = some (.int .u32 wn.a) := nn.at_ 5
            have xnn_6 : w8.cell? ⟨g10, 6, none⟩ = some (.int .u16 wn.f) := nn.at_ 6
            have xnn_7 : w8.cell? ⟨g10, 7, none⟩ = some (.int .u16 wn.t) := nn.at_ 7
            refine wp_region_lit ?_
            refine wpList_plain rfl fun K hK => ?_; go_simp; refine hK _ _ ?_; clear hK K
            refine wpList_plain rfl fun K hK => ?_; go_simp; refine hK _ _ ?_; clear hK K
            refine wpList_plain rfl fun K hK => ?_; go_simp; refine hK _ _ ?_; clear hK K
            refine wpList_plain rfl fun K hK => ?_; go_simp; refine hK _ _ ?_; clear hK K
            refine wpList_plain rfl fun K hK => ?_
            refine RowK.wp_app (K := wantK) (.tmp 76) (.tmp 78) rfl _ _ rfl rfl [] [wn] (RowK.Own.nil _) (RowK.Read.one (Cells.new w8 _ _)) (by simp) ?_
            intro A1 n1 w9 o9 g9 h9
            refine hK _ _ ?_; clear hK K
            simp only [List.nil_append, List.length_cons, List.length_nil, Nat.zero_add] at o9 h9 ⊢
            have b9 : Below w8.heap.size w8 w9 := (fresh_below w8 (.cells #[.bool wn.fx, .int .u32 wn.ii, .int .u16 wn.ip, .int .u32 wn.oi, .int .u16 wn.op, .int .u32 wn.a, .int .u16 wn.f, .int .u16 wn.t] 40)).grown g9 (by simp) (fun k hk => by cases hk)
            have hown : ∀ g, (Value.slice A1 1 n1).ownBlock = some g → w8.heap.size ≤ g := fun g hg => by
              rcases h9 with e | e
              · rw [e] at hg; cases hg
              · rw [e] at hg; cases hg; simp
            have d6b := Cells.below b9 d6
            have hg68 : g6 < w8.heap.size := Cells.lt d6
            have d1b := Cells.below b9 (Cells.below bn D1.out)
            have l9 := bstep (bstep L0.out bn) b9
            have hg67 : g6 ≠ g7 := fun e => by
              have h1 := D6.out; have h2 := D7.out
              rw [← e] at h2
              have h3 := h1.symm.trans h2
              simp at h3
            have hg78 : g7 < w8.heap.size := Cells.lt (Cells.below bn D7.out)
            have d0b := Cells.below b9 (Cells.below bn D0.out)
            have d7b := Cells.below b9 (Cells.below bn D7.out)
            clear xd6_0 xd6_1 xd6_2 xd6_3 xd6_4 xd6_5 xd6_6 xd6_7 xd6_8 xd6_9 xnn_0 xnn_1 xnn_2 xnn_3 xnn_4 xnn_5 xnn_6 xnn_7 nn d6 g9 h9
            have xd6b_0 : w9.cell? ⟨g6, 0, none⟩ = some (.int .u8 x.p) := d6b.at_ 0
            have xd6b_1 : w9.cell? ⟨g6, 1, none⟩ = some (.int .u32 x.si) := d6b.at_ 1
            have xd6b_2 : w9.cell? ⟨g6, 2, none⟩ = some (.int .u16 x.sp) := d6b.at_ 2
            have xd6b_3 : w9.cell? ⟨g6, 3, none⟩ = some (.int .u32 x.di) := d6b.at_ 3
            have xd6b_4 : w9.cell? ⟨g6, 4, none⟩ = some (.int .u16 x.dp) := d6b.at_ 4
            have xd6b_5 : w9.cell? ⟨g6, 5, none⟩ = some (.int .u32 x.di) := d6b.at_ 5
            have xd6b_6 : w9.cell? ⟨g6, 6, none⟩ = some (.int .u16 x.dp) := d6b.at_ 6
            have xd6b_7 : w9.cell? ⟨g6, 7, none⟩ = some (.bool false) := d6b.at_ 7
            have xd6b_8 : w9.cell? ⟨g6, 8, none⟩ = some (.int .i64 0) := d6b.at_ 8
            have xd6b_9 : w9.cell? ⟨g6, 9, none⟩ = some (.slice none 0 0) := d6b.at_ 9
            have yd6b_0 : w9.frozen? ⟨g6, 0, none⟩ = false := d6b.free 0
            have yd6b_1 : w9.frozen? ⟨g6, 1, none⟩ = false := d6b.free 1
            have yd6b_2 : w9.frozen? ⟨g6, 2, none⟩ = false := d6b.free 2
            have yd6b_3 : w9.frozen? ⟨g6, 3, none⟩ = false := d6b.free 3
            have yd6b_4 : w9.frozen? ⟨g6, 4, none⟩ = false := d6b.free 4
            have yd6b_5 : w9.frozen? ⟨g6, 5, none⟩ = false := d6b.free 5
            have yd6b_6 : w9.frozen? ⟨g6, 6, none⟩ = false := d6b.free 6
            have yd6b_7 : w9.frozen? ⟨g6, 7, none⟩ = false := d6b.free 7
            have yd6b_8 : w9.frozen? ⟨g6, 8, none⟩ = false := d6b.free 8
            have yd6b_9 : w9.frozen? ⟨g6, 9, none⟩ = false := d6b.free 9
            refine wpList_plain rfl fun K hK => ?_; go_simp; refine hK _ _ ?_; clear hK K
            refine wpList_plain rfl fun K hK => ?_; go_simp; refine hK _ _ ?_; clear hK K
            have d6s : Cells (w9.setCell ⟨g6, 7, none⟩ (.bool true)) g6 #[.int .u8 x.p, .int .u32 x.si, .int .u16 x.sp, .int .u32 x.di, .int .u16 x.dp, .int .u32 x.di, .int .u16 x.dp, .bool true, .int .i64 0, .slice none 0 0] 31 := Cells.like (Cells.set_ d6b 7 (.bool true)) (by simp)
            clear xd6b_0 xd6b_1 xd6b_2 xd6b_3 xd6b_4 xd6b_5 xd6b_6 xd6b_7 xd6b_8 xd6b_9 yd6b_0 yd6b_1 yd6b_2 yd6b_3 yd6b_4 yd6b_5 yd6b_6 yd6b_7 yd6b_8 yd6b_9
            have xd6s_0 : ((w9.setCell ⟨g6, 7, none⟩ (.bool true))).cell? ⟨g6, 0, none⟩ = some (.int .u8 x.p) := d6s.at_ 0
            have xd6s_1 : ((w9.setCell ⟨g6, 7, none⟩ (.bool true))).cell? ⟨g6, 1, none⟩ = some (.int .u32 x.si) := d6s.at_ 1
            have xd6s_2 : ((w9.setCell ⟨g6, 7, none⟩ (.bool true))).cell? ⟨g6, 2, none⟩ = some (.int .u16 x.sp) := d6s.at_ 2
            have xd6s_3 : ((w9.setCell ⟨g6, 7, none⟩ (.bool true))).cell? ⟨g6, 3, none⟩ = some (.int .u32 x.di) := d6s.at_ 3
            have xd6s_4 : ((w9.setCell ⟨g6, 7, none⟩ (.bool true))).cell? ⟨g6, 4, none⟩ = some (.int .u16 x.dp) := d6s.at_ 4
            have xd6s_5 : ((w9.setCell ⟨g6, 7, none⟩ (.bool true))).cell? ⟨g6, 5, none⟩ = some (.int .u32 x.di) := d6s.at_ 5
            have xd6s_6 : ((w9.setCell ⟨g6, 7, none⟩ (.bool true))).cell? ⟨g6, 6, none⟩ = some (.int .u16 x.dp) := d6s.at_ 6
            have xd6s_7 : ((w9.setCell ⟨g6, 7, none⟩ (.bool true))).cell? ⟨g6, 7, none⟩ = some (.bool true) := d6s.at_ 7
            have xd6s_8 : ((w9.setCell ⟨g6, 7, none⟩ (.bool true))).cell? ⟨g6, 8, none⟩ = some (.int .i64 0) := d6s.at_ 8
            have xd6s_9 : ((w9.setCell ⟨g6, 7, none⟩ (.bool true))).cell? ⟨g6, 9, none⟩ = some (.slice none 0 0) := d6s.at_ 9
            have yd6s_0 : ((w9.setCell ⟨g6, 7, none⟩ (.bool true))).frozen? ⟨g6, 0, none⟩ = false := d6s.free 0
            have yd6s_1 : ((w9.setCell ⟨g6, 7, none⟩ (.bool true))).frozen? ⟨g6, 1, none⟩ = false := d6s.free 1
            have yd6s_2 : ((w9.setCell ⟨g6, 7, none⟩ (.bool true))).frozen? ⟨g6, 2, none⟩ = false := d6s.free 2
            have yd6s_3 : ((w9.setCell ⟨g6, 7, none⟩ (.bool true))).frozen? ⟨g6, 3, none⟩ = false := d6s.free 3
            have yd6s_4 : ((w9.setCell ⟨g6, 7, none⟩ (.bool true))).frozen? ⟨g6, 4, none⟩ = false := d6s.free 4
            have yd6s_5 : ((w9.setCell ⟨g6, 7, none⟩ (.bool true))).frozen? ⟨g6, 5, none⟩ = false := d6s.free 5
            have yd6s_6 : ((w9.setCell ⟨g6, 7, none⟩ (.bool true))).frozen? ⟨g6, 6, none⟩ = false := d6s.free 6
            have yd6s_7 : ((w9.setCell ⟨g6, 7, none⟩ (.bool true))).frozen? ⟨g6, 7, none⟩ = false := d6s.free 7
            have yd6s_8 : ((w9.setCell ⟨g6, 7, none⟩ (.bool true))).frozen? ⟨g6, 8, none⟩ = false := d6s.free 8
            have yd6s_9 : ((w9.setCell ⟨g6, 7, none⟩ (.bool true))).frozen? ⟨g6, 9, none⟩ = false := d6s.free 9
            refine wpList_plain rfl fun K hK => ?_; go_simp; refine hK _ _ ?_; clear hK K
            refine wpList_plain rfl fun K hK => ?_; go_simp; refine hK _ _ ?_; clear hK K
            have hne : w.heap.size + 1 ≠ g6 := by have := HG6.out; omega
            have d6c : Cells ((w9.setCell ⟨g6, 7, none⟩ (.bool true)).setCell ⟨g6, 9, none⟩ (.slice A1 1 n1)) g6 #[.int .u8 x.p, .int .u32 x.si, .int .u16 x.sp, .int .u32 x.di, .int .u16 x.dp, .int .u32 x.di, .int .u16 x.dp, .bool true, .int .i64 0, .slice A1 1 n1] 31 := Cells.like (Cells.set_ d6s 9 (.slice A1 1 n1)) (by simp)
            have d1c := Cells.other (Cells.other d1b hne 7 (.bool true)) hne 9 (.slice A1 1 n1)
            have hg6z : w.heap.size + 1 < g6 := HG6.out
            have hnz : w.heap.size ≠ g6 := by omega
            have d0c := Cells.other (Cells.other d0b hnz 7 (.bool true)) hnz 9 (.slice A1 1 n1)
            have d7c := Cells.other (Cells.other d7b (fun e => hg67 e.symm) 7 (.bool true)) (fun e => hg67 e.symm) 9 (.slice A1 1 n1)
            have hown3 : ∀ g, (Value.slice A1 1 n1).ownBlock = some g → g6 < g ∧ g ≠ g7 := fun g hg => ⟨Nat.lt_of_lt_of_le hg68 (hown g hg), fun e => absurd (Nat.lt_of_lt_of_le hg78 (hown g hg)) (by rw [e]; exact Nat.lt_irrefl _)⟩
            have hoff : (Value.slice A1 1 n1).ownBlock ≠ some g6 := fun e => by have := hown g6 e; omega
            have oc := Own.set (Own.set o9 g6 7 (.bool true) hoff) g6 9 (.slice A1 1 n1) hoff
            have lc : Below w.heap.size w ((w9.setCell ⟨g6, 7, none⟩ (.bool true)).setCell ⟨g6, 9, none⟩ (.slice A1 1 n1)) := Below.setCell (Below.setCell l9 (by have := HG6.out; show w.heap.size ≤ g6; omega) _) (by have := HG6.out; show w.heap.size ≤ g6; omega) _
            have hown2 : ∀ g, (Value.slice A1 1 n1).ownBlock = some g → w.heap.size + 1 < g := fun g hg => by have := hown g hg; have := HG6.out; omega
            clear qd0_0 qd0_1 qd0_2 qd0_3 qd0_4 qd1_0 qd1_1 qd1_2 qd1_3 qd1_4 qd1_5 qd1_6 qd1_7 qd1_8 qd1_9 qd6_0 qd6_1 qd6_2 qd6_3 qd6_4 qd6_5 qd6_6 qd6_7 qd6_8 qd6_9 qd7_0 qd7_1 qd7_2 qd7_3 qd7_4 qd7_5 qd7_6 qd7_7 qd7_8 qd7_9 qd7_10 fz fz6 bA bb b2'
            clear yd6s_0 yd6s_1 yd6s_2 yd6s_3 yd6s_4 yd6s_5 yd6s_6 yd6s_7 yd6s_8 yd6s_9 xd6s_0 xd6s_1 xd6s_2 xd6s_3 xd6s_4 xd6s_5 xd6s_6 xd6s_7 xd6s_8 xd6s_9 d6s d6b d1b d0b d7b l9 o9 b9 bn hoff hown hne
            generalize ((w9.setCell ⟨g6, 7, none⟩ (.bool true)).setCell ⟨g6, 9, none⟩ (.slice A1 1 n1)) = w10 at *
            have xd6c_0 : w10.cell? ⟨g6, 0, none⟩ = some (.int .u8 x.p) := d6c.at_ 0
            have xd6c_1 : w10.cell? ⟨g6, 1, none⟩ = some (.int .u32 x.si) := d6c.at_ 1
            have xd6c_2 : w10.cell? ⟨g6, 2, none⟩ = some (.int .u16 x.sp) := d6c.at_ 2
            have xd6c_3 : w10.cell? ⟨g6, 3, none⟩ = some (.int .u32 x.di) := d6c.at_ 3
            have xd6c_4 : w10.cell? ⟨g6, 4, none⟩ = some (.int .u16 x.dp) := d6c.at_ 4
            have xd6c_5 : w10.cell? ⟨g6, 5, none⟩ = some (.int .u32 x.di) := d6c.at_ 5
            have xd6c_6 : w10.cell? ⟨g6, 6, none⟩ = some (.int .u16 x.dp) := d6c.at_ 6
            have xd6c_7 : w10.cell? ⟨g6, 7, none⟩ = some (.bool true) := d6c.at_ 7
            have xd6c_8 : w10.cell? ⟨g6, 8, none⟩ = some (.int .i64 0) := d6c.at_ 8
            have xd6c_9 : w10.cell? ⟨g6, 9, none⟩ = some (.slice A1 1 n1) := d6c.at_ 9
            have xd1c_0 : w10.cell? ⟨w.heap.size + 1, 0, none⟩ = some (.int .u8 0) := d1c.at_ 0
            have xd1c_1 : w10.cell? ⟨w.heap.size + 1, 1, none⟩ = some (.int .u32 0) := d1c.at_ 1
            have xd1c_2 : w10.cell? ⟨w.heap.size + 1, 2, none⟩ = some (.int .u16 0) := d1c.at_ 2
            have xd1c_3 : w10.cell? ⟨w.heap.size + 1, 3, none⟩ = some (.int .u32 0) := d1c.at_ 3
            have xd1c_4 : w10.cell? ⟨w.heap.size + 1, 4, none⟩ = some (.int .u16 0) := d1c.at_ 4
            have xd1c_5 : w10.cell? ⟨w.heap.size + 1, 5, none⟩ = some (.int .u32 0) := d1c.at_ 5
            have xd1c_6 : w10.cell? ⟨w.heap.size + 1, 6, none⟩ = some (.int .u16 0) := d1c.at_ 6
            have xd1c_7 : w10.cell? ⟨w.heap.size + 1, 7, none⟩ = some (.bool false) := d1c.at_ 7
            have xd1c_8 : w10.cell? ⟨w.heap.size + 1, 8, none⟩ = some (.int .i64 0) := d1c.at_ 8
            have xd1c_9 : w10.cell? ⟨w.heap.size + 1, 9, none⟩ = some (.slice none 0 0) := d1c.at_ 9
            have yd1c_0 : w10.frozen? ⟨w.heap.size + 1, 0, none⟩ = false := d1c.free 0
            have yd1c_1 : w10.frozen? ⟨w.heap.size + 1, 1, none⟩ = false := d1c.free 1
            have yd1c_2 : w10.frozen? ⟨w.heap.size + 1, 2, none⟩ = false := d1c.free 2
            have yd1c_3 : w10.frozen? ⟨w.heap.size + 1, 3, none⟩ = false := d1c.free 3
            have yd1c_4 : w10.frozen? ⟨w.heap.size + 1, 4, none⟩ = false := d1c.free 4
            have yd1c_5 : w10.frozen? ⟨w.heap.size + 1, 5, none⟩ = false := d1c.free 5
            have yd1c_6 : w10.frozen? ⟨w.heap.size + 1, 6, none⟩ = false := d1c.free 6
            have yd1c_7 : w10.frozen? ⟨w.heap.size + 1, 7, none⟩ = false := d1c.free 7
            have yd1c_8 : w10.frozen? ⟨w.heap.size + 1, 8, none⟩ = false := d1c.free 8
            have yd1c_9 : w10.frozen? ⟨w.heap.size + 1, 9, none⟩ = false := d1c.free 9
            go_upto_region 15 with fail
            go_wp2_with fail
            clear xd6c_0 xd1c_0 yd1c_0 xd6c_1 xd1c_1 yd1c_1 xd6c_2 xd1c_2 yd1c_2 xd6c_3 xd1c_3 yd1c_3 xd6c_4 xd1c_4 yd1c_4 xd6c_5 xd1c_5 yd1c_5 xd6c_6 xd1c_6 yd1c_6 xd6c_7 xd1c_7 yd1c_7 xd6c_8 xd1c_8 yd1c_8 xd6c_9 xd1c_9 yd1c_9
            have q5 : Only (fun i => i = w.heap.size + 1) w10 ((((((((((w10.setCell ⟨w.heap.size + 1, 0, none⟩ (.int .u8 x.p)).setCell ⟨w.heap.size + 1, 1, none⟩ (.int .u32 x.si)).setCell ⟨w.heap.size + 1, 2, none⟩ (.int .u16 x.sp)).setCell ⟨w.heap.size + 1, 3, none⟩ (.int .u32 x.di)).setCell ⟨w.heap.size + 1, 4, none⟩ (.int .u16 x.dp)).setCell ⟨w.heap.size + 1, 5, none⟩ (.int .u32 x.di)).setCell ⟨w.heap.size + 1, 6, none⟩ (.int .u16 x.dp)).setCell ⟨w.heap.size + 1, 7, none⟩ (.bool true)).setCell ⟨w.heap.size + 1, 8, none⟩ (.int .i64 0)).setCell ⟨w.heap.size + 1, 9, none⟩ (.slice A1 1 n1)) := by repeat' (first | with_reducible exact Only.refl _ _ | with_reducible refine Only.setAt ?_ _ _ (Or.inl rfl))
            have hoff : (Value.slice A1 1 n1).ownBlock ≠ some (w.heap.size + 1) := fun e => by have := hown2 _ e; omega
            have o5 := Own.other oc q5 hoff
            clear q5
            have r5 := (Cells.put10 d1c (.int .u8 x.p) (.int .u32 x.si) (.int .u16 x.sp) (.int .u32 x.di) (.int .u16 x.dp) (.int .u32 x.di) (.int .u16 x.dp) (.bool true) (.int .i64 0) (.slice A1 1 n1))
            have b5 := (Below.put10 lc (b := w.heap.size + 1) (by first | exact Nat.le_refl _ | omega) (.int .u8 x.p) (.int .u32 x.si) (.int .u16 x.sp) (.int .u32 x.di) (.int .u16 x.dp) (.int .u32 x.di) (.int .u16 x.dp) (.bool true) (.int .i64 0) (.slice A1 1 n1))
            have HR5 := hide r5; have HB5 := hide b5
            clear r5 b5 d1c
            generalize ((((((((((w10.setCell ⟨w.heap.size + 1, 0, none⟩ (.int .u8 x.p)).setCell ⟨w.heap.size + 1, 1, none⟩ (.int .u32 x.si)).setCell ⟨w.heap.size + 1, 2, none⟩ (.int .u16 x.sp)).setCell ⟨w.heap.size + 1, 3, none⟩ (.int .u32 x.di)).setCell ⟨w.heap.size + 1, 4, none⟩ (.int .u16 x.dp)).setCell ⟨w.heap.size + 1, 5, none⟩ (.int .u32 x.di)).setCell ⟨w.heap.size + 1, 6, none⟩ (.int .u16 x.dp)).setCell ⟨w.heap.size + 1, 7, none⟩ (.bool true)).setCell ⟨w.heap.size + 1, 8, none⟩ (.int .i64 0)).setCell ⟨w.heap.size + 1, 9, none⟩ (.slice A1 1 n1)) = W5 at *
            have r5 := HR5.out; have b5 := HB5.out
            clear HR5 HB5
            have xr5_0 : W5.cell? ⟨w.heap.size + 1, 0, none⟩ = some (.int .u8 x.p) := r5.at_ 0
            have xr5_1 : W5.cell? ⟨w.heap.size + 1, 1, none⟩ = some (.int .u32 x.si) := r5.at_ 1
            have xr5_2 : W5.cell? ⟨w.heap.size + 1, 2, none⟩ = some (.int .u16 x.sp) := r5.at_ 2
            have xr5_3 : W5.cell? ⟨w.heap.size + 1, 3, none⟩ = some (.int .u32 x.di) := r5.at_ 3
            have xr5_4 : W5.cell? ⟨w.heap.size + 1, 4, none⟩ = some (.int .u16 x.dp) := r5.at_ 4
            have xr5_5 : W5.cell? ⟨w.heap.size + 1, 5, none⟩ = some (.int .u32 x.di) := r5.at_ 5
            have xr5_6 : W5.cell? ⟨w.heap.size + 1, 6, none⟩ = some (.int .u16 x.dp) := r5.at_ 6
            have xr5_7 : W5.cell? ⟨w.heap.size + 1, 7, none⟩ = some (.bool true) := r5.at_ 7
            have xr5_8 : W5.cell? ⟨w.heap.size + 1, 8, none⟩ = some (.int .i64 0) := r5.at_ 8
            have xr5_9 : W5.cell? ⟨w.heap.size + 1, 9, none⟩ = some (.slice A1 1 n1) := r5.at_ 9
            (try simp only [Exit.inBlock, Exit.then]); refine bodyPost_ret (by simp [results, Tryd.results23, go_sem, *]; try rfl) rfl ?_
            (try simp only [Bool.true_and, Bool.false_and, Bool.and_true, Bool.and_false, Bool.false_or, Bool.or_false, Bool.true_or, Bool.or_true, Bool.not_true, Bool.not_false, Bool.false_eq_true, if_false, if_true, List.append_nil, List.nil_append])
            exact ⟨_, rfl, o5, (fun g e => Nat.le_of_lt (Nat.lt_of_succ_lt (hown2 g e))), b5⟩
        · simp only [Bool.true_and, Bool.false_and, Bool.false_or, Bool.or_true, Bool.and_true, Bool.not_true, Bool.not_false, Bool.false_eq_true, if_false, if_true]
          go_wp2_with (first | (go_at_call 37; (with_reducible refine (C2.out _ (bstep L0.out (by assumption))).mono ?_); rintro e2 w2 ⟨rfl, b2⟩; have b2' := bstep (by assumption : Below w7.heap.size w7 _) b2; clear b2) | (go_at_call 38; (with_reducible refine (C3.out _ (bstep L0.out (by assumption))).mono ?_); rintro e2 w2 ⟨rfl, b2⟩; have b2' := bstep (by assumption : Below w7.heap.size w7 _) b2; clear b2))
          have d1 := Cells.below b2' D1.out
          have l2 := bstep L0.out b2'
          clear qd0_0 qd0_1 qd0_2 qd0_3 qd0_4 qd1_0 qd1_1 qd1_2 qd1_3 qd1_4 qd1_5 qd1_6 qd1_7 qd1_8 qd1_9 qd6_0 qd6_1 qd6_2 qd6_3 qd6_4 qd6_5 qd6_6 qd6_7 qd6_8 qd6_9 qd7_0 qd7_1 qd7_2 qd7_3 qd7_4 qd7_5 qd7_6 qd7_7 qd7_8 qd7_9 qd7_10 fz fz6 bA bb
          have r5 := (Cells.put10 d1 (.int .u8 0) (.int .u32 0) (.int .u16 0) (.int .u32 0) (.int .u16 0) (.int .u32 0) (.int .u16 0) (.bool false) (.int .i64 0) (.slice none 0 0))
          have b5 := (Below.put10 l2 (b := w.heap.size + 1) (by first | exact Nat.le_refl _ | omega) (.int .u8 0) (.int .u32 0) (.int .u16 0) (.int .u32 0) (.int .u16 0) (.int .u32 0) (.int .u16 0) (.bool false) (.int .i64 0) (.slice none 0 0))
          have HR5 := hide r5; have HB5 := hide b5
          clear r5 b5 d1
          generalize ((((((((((w2.setCell ⟨w.heap.size + 1, 0, none⟩ (.int .u8 0)).setCell ⟨w.heap.size + 1, 1, none⟩ (.int .u32 0)).setCell ⟨w.heap.size + 1, 2, none⟩ (.int .u16 0)).setCell ⟨w.heap.size + 1, 3, none⟩ (.int .u32 0)).setCell ⟨w.heap.size + 1, 4, none⟩ (.int .u16 0)).setCell ⟨w.heap.size + 1, 5, none⟩ (.int .u32 0)).setCell ⟨w.heap.size + 1, 6, none⟩ (.int .u16 0)).setCell ⟨w.heap.size + 1, 7, none⟩ (.bool false)).setCell ⟨w.heap.size + 1, 8, none⟩ (.int .i64 0)).setCell ⟨w.heap.size + 1, 9, none⟩ (.slice none 0 0)) = W5 at *
          have r5 := HR5.out; have b5 := HB5.out
          clear HR5 HB5
          have xr5_0 : W5.cell? ⟨w.heap.size + 1, 0, none⟩ = some (.int .u8 0) := r5.at_ 0
          have xr5_1 : W5.cell? ⟨w.heap.size + 1, 1, none⟩ = some (.int .u32 0) := r5.at_ 1
          have xr5_2 : W5.cell? ⟨w.heap.size + 1, 2, none⟩ = some (.int .u16 0) := r5.at_ 2
          have xr5_3 : W5.cell? ⟨w.heap.size + 1, 3, none⟩ = some (.int .u32 0) := r5.at_ 3
          have xr5_4 : W5.cell? ⟨w.heap.size + 1, 4, none⟩ = some (.int .u16 0) := r5.at_ 4
          have xr5_5 : W5.cell? ⟨w.heap.size + 1, 5, none⟩ = some (.int .u32 0) := r5.at_ 5
          have xr5_6 : W5.cell? ⟨w.heap.size + 1, 6, none⟩ = some (.int .u16 0) := r5.at_ 6
          have xr5_7 : W5.cell? ⟨w.heap.size + 1, 7, none⟩ = some (.bool false) := r5.at_ 7
          have xr5_8 : W5.cell? ⟨w.heap.size + 1, 8, none⟩ = some (.int .i64 0) := r5.at_ 8
          have xr5_9 : W5.cell? ⟨w.heap.size + 1, 9, none⟩ = some (.slice none 0 0) := r5.at_ 9
          (try simp only [Exit.inBlock, Exit.then]); refine bodyPost_ret (by simp [results, Tryd.results23, go_sem, *]; try rfl) rfl ?_
          exact ⟨_, rfl, RowK.Own.nil _, (fun g e => by cases e), b5⟩
      · cases e1
        · cases xo
          · simp only [Bool.true_and, Bool.false_and, Bool.and_false, Bool.false_or, Bool.or_false, Bool.not_true, Bool.not_false, Bool.false_eq_true, if_false, if_true]
            go_wp2_with (first | (go_at_call 37; (with_reducible refine (C2.out _ (bstep L0.out (by assumption))).mono ?_); rintro e2 w2 ⟨rfl, b2⟩; have b2' := bstep (by assumption : Below w7.heap.size w7 _) b2; clear b2) | (go_at_call 39; (with_reducible refine (C4.out _ (bstep L0.out (by assumption))).mono ?_); rintro e2 w2 ⟨rfl, b2⟩; have b2' := bstep (by assumption : Below w7.heap.size w7 _) b2; clear b2))
            have d1 := Cells.below (bA _ (.cells #[.bool wn.fx, .int .u32 wn.ii, .int .u16 wn.ip, .int .u32 wn.oi, .int .u16 wn.op, .int .u32 wn.a, .int .u16 wn.f, .int .u16 wn.t] 40) b2') D1.out
            have l2 := bstep L0.out (bA _ (.cells #[.bool wn.fx, .int .u32 wn.ii, .int .u16 wn.ip, .int .u32 wn.oi, .int .u16 wn.op, .int .u32 wn.a, .int .u16 wn.f, .int .u16 wn.t] 40) b2')
            clear qd0_0 qd0_1 qd0_2 qd0_3 qd0_4 qd1_0 qd1_1 qd1_2 qd1_3 qd1_4 qd1_5 qd1_6 qd1_7 qd1_8 qd1_9 qd6_0 qd6_1 qd6_2 qd6_3 qd6_4 qd6_5 qd6_6 qd6_7 qd6_8 qd6_9 qd7_0 qd7_1 qd7_2 qd7_3 qd7_4 qd7_5 qd7_6 qd7_7 qd7_8 qd7_9 qd7_10 fz fz6 bA bb
            have r5 := (Cells.put10 d1 (.int .u8 0) (.int .u32 0) (.int .u16 0) (.int .u32 0) (.int .u16 0) (.int .u32 0) (.int .u16 0) (.bool false) (.int .i64 0) (.slice none 0 0))
            have b5 := (Below.put10 l2 (b := w.heap.size + 1) (by first | exact Nat.le_refl _ | omega) (.int .u8 0) (.int .u32 0) (.int .u16 0) (.int .u32 0) (.int .u16 0) (.int .u32 0) (.int .u16 0) (.bool false) (.int .i64 0) (.slice none 0 0))
            have HR5 := hide r5; have HB5 := hide b5
            clear r5 b5 d1
            generalize ((((((((((((w2.alloc (.cells #[.bool wn.fx, .int .u32 wn.ii, .int .u16 wn.ip, .int .u32 wn.oi, .int .u16 wn.op, .int .u32 wn.a, .int .u16 wn.f, .int .u16 wn.t] 40))).setCell ⟨w.heap.size + 1, 0, none⟩ (.int .u8 0)).setCell ⟨w.heap.size + 1, 1, none⟩ (.int .u32 0)).setCell ⟨w.heap.size + 1, 2, none⟩ (.int .u16 0)).setCell ⟨w.heap.size + 1, 3, none⟩ (.int .u32 0)).setCell ⟨w.heap.size + 1, 4, none⟩ (.int .u16 0)).setCell ⟨w.heap.size + 1, 5, none⟩ (.int .u32 0)).setCell ⟨w.heap.size + 1, 6, none⟩ (.int .u16 0)).setCell ⟨w.heap.size + 1, 7, none⟩ (.bool false)).setCell ⟨w.heap.size + 1, 8, none⟩ (.int .i64 0)).setCell ⟨w.heap.size + 1, 9, none⟩ (.slice none 0 0)) = W5 at *
            have r5 := HR5.out; have b5 := HB5.out
            clear HR5 HB5
            have xr5_0 : W5.cell? ⟨w.heap.size + 1, 0, none⟩ = some (.int .u8 0) := r5.at_ 0
            have xr5_1 : W5.cell? ⟨w.heap.size + 1, 1, none⟩ = some (.int .u32 0) := r5.at_ 1
            have xr5_2 : W5.cell? ⟨w.heap.size + 1, 2, none⟩ = some (.int .u16 0) := r5.at_ 2
            have xr5_3 : W5.cell? ⟨w.heap.size + 1, 3, none⟩ = some (.int .u32 0) := r5.at_ 3
            have xr5_4 : W5.cell? ⟨w.heap.size + 1, 4, none⟩ = some (.int .u16 0) := r5.at_ 4
            have xr5_5 : W5.cell? ⟨w.heap.size + 1, 5, none⟩ = some (.int .u32 0) := r5.at_ 5
            have xr5_6 : W5.cell? ⟨w.heap.size + 1, 6, none⟩ = some (.int .u16 0) := r5.at_ 6
            have xr5_7 : W5.cell? ⟨w.heap.size + 1, 7, none⟩ = some (.bool false) := r5.at_ 7
            have xr5_8 : W5.cell? ⟨w.heap.size + 1, 8, none⟩ = some (.int .i64 0) := r5.at_ 8
            have xr5_9 : W5.cell? ⟨w.heap.size + 1, 9, none⟩ = some (.slice none 0 0) := r5.at_ 9
            (try simp only [Exit.inBlock, Exit.then]); refine bodyPost_ret (by simp [results, Tryd.results23, go_sem, *]; try rfl) rfl ?_
            exact ⟨_, rfl, RowK.Own.nil _, (fun g e => by cases e), b5⟩
          · simp only [Bool.true_and, Bool.false_and, Bool.and_false, Bool.false_or, Bool.or_false, Bool.not_true, Bool.not_false, Bool.false_eq_true, if_false, if_true]
            go_upto_region 12 with (first | (go_at_call 37; (with_reducible refine (C2.out _ (bstep L0.out (by assumption))).mono ?_); rintro e2 w2 ⟨rfl, b2⟩; have b2' := bstep (by assumption : Below w7.heap.size w7 _) b2; clear b2) | (go_at_call 39; (with_reducible refine (C4.out _ (bstep L0.out (by assumption))).mono ?_); rintro e2 w2 ⟨rfl, b2⟩; have b2' := bstep (by assumption : Below w7.heap.size w7 _) b2; clear b2))
            have nn := Cells.new w2 #[.bool wn.fx, .int .u32 wn.ii, .int .u16 wn.ip, .int .u32 wn.oi, .int .u16 wn.op, .int .u32 wn.a, .int .u16 wn.f, .int .u16 wn.t] 40
            have bn : Below w7.heap.size w7 (w2.alloc (.cells #[.bool wn.fx, .int .u32 wn.ii, .int .u16 wn.ip, .int .u32 wn.oi, .int .u16 wn.op, .int .u32 wn.a, .int .u16 wn.f, .int .u16 wn.t] 40)) := bA _ _ b2'
            generalize w2.heap.size = g10 at nn ⊢
            generalize (w2.alloc (.cells #[.bool wn.fx, .int .u32 wn.ii, .int .u16 wn.ip, .int .u32 wn.oi, .int .u16 wn.op, .int .u32 wn.a, .int .u16 wn.f, .int .u16 wn.t] 40)) = w8 at *
            have d6 := Cells.below bn D6.out
            have xd6_0 : w8.cell? ⟨g6, 0, none⟩ = some (.int .u8 x.p) := d6.at_ 0
            have xd6_1 : w8.cell? ⟨g6, 1, none⟩ = some (.int .u32 x.si) := d6.at_ 1
            have xd6_2 : w8.cell? ⟨g6, 2, none⟩ = some (.int .u16 x.sp) := d6.at_ 2
            have xd6_3 : w8.cell? ⟨g6, 3, none⟩ = some (.int .u32 x.di) := d6.at_ 3
            have xd6_4 : w8.cell? ⟨g6, 4, none⟩ = some (.int .u16 x.dp) := d6.at_ 4
            have xd6_5 : w8.cell? ⟨g6, 5, none⟩ = some (.int .u32 x.di) := d6.at_ 5
            have xd6_6 : w8.cell? ⟨g6, 6, none⟩ = some (.int .u16 x.dp) := d6.at_ 6
            have xd6_7 : w8.cell? ⟨g6, 7, none⟩ = some (.bool false) := d6.at_ 7
            have xd6_8 : w8.cell? ⟨g6, 8, none⟩ = some (.int .i64 0) := d6.at_ 8
            have xd6_9 : w8.cell? ⟨g6, 9, none⟩ = some (.slice none 0 0) := d6.at_ 9
            have xnn_0 : w8.cell? ⟨g10, 0, none⟩ = some (.bool wn.fx) := nn.at_ 0
            have xnn_1 : w8.cell? ⟨g10, 1, none⟩ = some (.int .u32 wn.ii) := nn.at_ 1
            have xnn_2 : w8.cell? ⟨g10, 2, none⟩ = some (.int .u16 wn.ip) := nn.at_ 2
            have xnn_3 : w8.cell? ⟨g10, 3, none⟩ = some (.int .u32 wn.oi) := nn.at_ 3
            have xnn_4 : w8.cell? ⟨g10, 4, none⟩ = some (.int .u16 wn.op) := nn.at_ 4
            have xnn_5 : w8.cell? ⟨g10, 5, none⟩ = some (.int .u32 wn.a) := nn.at_ 5
            have xnn_6 : w8.cell? ⟨g10, 6, none⟩ = some (.int .u16 wn.f) := nn.at_ 6
            have xnn_7 : w8.cell? ⟨g10, 7, none⟩ = some (.int .u16 wn.t) := nn.at_ 7
            refine wp_region_lit ?_
            refine wpList_plain rfl fun K hK => ?_; go_simp; refine hK _ _ ?_; clear hK K
            refine wpList_plain rfl fun K hK => ?_; go_simp; refine hK _ _ ?_; clear hK K
            refine wpList_plain rfl fun K hK => ?_; go_simp; refine hK _ _ ?_; clear hK K
            refine wpList_plain rfl fun K hK => ?_; go_simp; refine hK _ _ ?_; clear hK K
            refine wpList_plain rfl fun K hK => ?_
            refine RowK.wp_app (K := wantK) (.tmp 76) (.tmp 78) rfl _ _ rfl rfl [] [wn] (RowK.Own.nil _) (RowK.Read.one (Cells.new w8 _ _)) (by simp) ?_
            intro A1 n1 w9 o9 g9 h9
            refine hK _ _ ?_; clear hK K
            simp only [List.nil_append, List.length_cons, List.length_nil, Nat.zero_add] at o9 h9 ⊢
            have b9 : Below w8.heap.size w8 w9 := (fresh_below w8 (.cells #[.bool wn.fx, .int .u32 wn.ii, .int .u16 wn.ip, .int .u32 wn.oi, .int .u16 wn.op, .int .u32 wn.a, .int .u16 wn.f, .int .u16 wn.t] 40)).grown g9 (by simp) (fun k hk => by cases hk)
            have hown : ∀ g, (Value.slice A1 1 n1).ownBlock = some g → w8.heap.size ≤ g := fun g hg => by
              rcases h9 with e | e
              · rw [e] at hg; cases hg
              · rw [e] at hg; cases hg; simp
            have d6b := Cells.below b9 d6
            have hg68 : g6 < w8.heap.size := Cells.lt d6
            have d1b := Cells.below b9 (Cells.below bn D1.out)
            have l9 := bstep (bstep L0.out bn) b9
            have hg67 : g6 ≠ g7 := fun e => by
              have h1 := D6.out; have h2 := D7.out
              rw [← e] at h2
              have h3 := h1.symm.trans h2
              simp at h3
            have hg78 : g7 < w8.heap.size := Cells.lt (Cells.below bn D7.out)
            have d0b := Cells.below b9 (Cells.below bn D0.out)
            have d7b := Cells.below b9 (Cells.below bn D7.out)
            clear xd6_0 xd6_1 xd6_2 xd6_3 xd6_4 xd6_5 xd6_6 xd6_7 xd6_8 xd6_9 xnn_0 xnn_1 xnn_2 xnn_3 xnn_4 xnn_5 xnn_6 xnn_7 nn d6 g9 h9
            have xd6b_0 : w9.cell? ⟨g6, 0, none⟩ = some (.int .u8 x.p) := d6b.at_ 0
            have xd6b_1 : w9.cell? ⟨g6, 1, none⟩ = some (.int .u32 x.si) := d6b.at_ 1
            have xd6b_2 : w9.cell? ⟨g6, 2, none⟩ = some (.int .u16 x.sp) := d6b.at_ 2
            have xd6b_3 : w9.cell? ⟨g6, 3, none⟩ = some (.int .u32 x.di) := d6b.at_ 3
            have xd6b_4 : w9.cell? ⟨g6, 4, none⟩ = some (.int .u16 x.dp) := d6b.at_ 4
            have xd6b_5 : w9.cell? ⟨g6, 5, none⟩ = some (.int .u32 x.di) := d6b.at_ 5
            have xd6b_6 : w9.cell? ⟨g6, 6, none⟩ = some (.int .u16 x.dp) := d6b.at_ 6
            have xd6b_7 : w9.cell? ⟨g6, 7, none⟩ = some (.bool false) := d6b.at_ 7
            have xd6b_8 : w9.cell? ⟨g6, 8, none⟩ = some (.int .i64 0) := d6b.at_ 8
            have xd6b_9 : w9.cell? ⟨g6, 9, none⟩ = some (.slice none 0 0) := d6b.at_ 9
            have yd6b_0 : w9.frozen? ⟨g6, 0, none⟩ = false := d6b.free 0
            have yd6b_1 : w9.frozen? ⟨g6, 1, none⟩ = false := d6b.free 1
            have yd6b_2 : w9.frozen? ⟨g6, 2, none⟩ = false := d6b.free 2
            have yd6b_3 : w9.frozen? ⟨g6, 3, none⟩ = false := d6b.free 3
            have yd6b_4 : w9.frozen? ⟨g6, 4, none⟩ = false := d6b.free 4
            have yd6b_5 : w9.frozen? ⟨g6, 5, none⟩ = false := d6b.free 5
            have yd6b_6 : w9.frozen? ⟨g6, 6, none⟩ = false := d6b.free 6
            have yd6b_7 : w9.frozen? ⟨g6, 7, none⟩ = false := d6b.free 7
            have yd6b_8 : w9.frozen? ⟨g6, 8, none⟩ = false := d6b.free 8
            have yd6b_9 : w9.frozen? ⟨g6, 9, none⟩ = false := d6b.free 9
            refine wpList_plain rfl fun K hK => ?_; go_simp; refine hK _ _ ?_; clear hK K
            refine wpList_plain rfl fun K hK => ?_; go_simp; refine hK _ _ ?_; clear hK K
            have d6s : Cells (w9.setCell ⟨g6, 7, none⟩ (.bool true)) g6 #[.int .u8 x.p, .int .u32 x.si, .int .u16 x.sp, .int .u32 x.di, .int .u16 x.dp, .int .u32 x.di, .int .u16 x.dp, .bool true, .int .i64 0, .slice none 0 0] 31 := Cells.like (Cells.set_ d6b 7 (.bool true)) (by simp)
            clear xd6b_0 xd6b_1 xd6b_2 xd6b_3 xd6b_4 xd6b_5 xd6b_6 xd6b_7 xd6b_8 xd6b_9 yd6b_0 yd6b_1 yd6b_2 yd6b_3 yd6b_4 yd6b_5 yd6b_6 yd6b_7 yd6b_8 yd6b_9
            have xd6s_0 : ((w9.setCell ⟨g6, 7, none⟩ (.bool true))).cell? ⟨g6, 0, none⟩ = some (.int .u8 x.p) := d6s.at_ 0
            have xd6s_1 : ((w9.setCell ⟨g6, 7, none⟩ (.bool true))).cell? ⟨g6, 1, none⟩ = some (.int .u32 x.si) := d6s.at_ 1
            have xd6s_2 : ((w9.setCell ⟨g6, 7, none⟩ (.bool true))).cell? ⟨g6, 2, none⟩ = some (.int .u16 x.sp) := d6s.at_ 2
            have xd6s_3 : ((w9.setCell ⟨g6, 7, none⟩ (.bool true))).cell? ⟨g6, 3, none⟩ = some (.int .u32 x.di) := d6s.at_ 3
            have xd6s_4 : ((w9.setCell ⟨g6, 7, none⟩ (.bool true))).cell? ⟨g6, 4, none⟩ = some (.int .u16 x.dp) := d6s.at_ 4
            have xd6s_5 : ((w9.setCell ⟨g6, 7, none⟩ (.bool true))).cell? ⟨g6, 5, none⟩ = some (.int .u32 x.di) := d6s.at_ 5
            have xd6s_6 : ((w9.setCell ⟨g6, 7, none⟩ (.bool true))).cell? ⟨g6, 6, none⟩ = some (.int .u16 x.dp) := d6s.at_ 6
            have xd6s_7 : ((w9.setCell ⟨g6, 7, none⟩ (.bool true))).cell? ⟨g6, 7, none⟩ = some (.bool true) := d6s.at_ 7
            have xd6s_8 : ((w9.setCell ⟨g6, 7, none⟩ (.bool true))).cell? ⟨g6, 8, none⟩ = some (.int .i64 0) := d6s.at_ 8
            have xd6s_9 : ((w9.setCell ⟨g6, 7, none⟩ (.bool true))).cell? ⟨g6, 9, none⟩ = some (.slice none 0 0) := d6s.at_ 9
            have yd6s_0 : ((w9.setCell ⟨g6, 7, none⟩ (.bool true))).frozen? ⟨g6, 0, none⟩ = false := d6s.free 0
            have yd6s_1 : ((w9.setCell ⟨g6, 7, none⟩ (.bool true))).frozen? ⟨g6, 1, none⟩ = false := d6s.free 1
            have yd6s_2 : ((w9.setCell ⟨g6, 7, none⟩ (.bool true))).frozen? ⟨g6, 2, none⟩ = false := d6s.free 2
            have yd6s_3 : ((w9.setCell ⟨g6, 7, none⟩ (.bool true))).frozen? ⟨g6, 3, none⟩ = false := d6s.free 3
            have yd6s_4 : ((w9.setCell ⟨g6, 7, none⟩ (.bool true))).frozen? ⟨g6, 4, none⟩ = false := d6s.free 4
            have yd6s_5 : ((w9.setCell ⟨g6, 7, none⟩ (.bool true))).frozen? ⟨g6, 5, none⟩ = false := d6s.free 5
            have yd6s_6 : ((w9.setCell ⟨g6, 7, none⟩ (.bool true))).frozen? ⟨g6, 6, none⟩ = false := d6s.free 6
            have yd6s_7 : ((w9.setCell ⟨g6, 7, none⟩ (.bool true))).frozen? ⟨g6, 7, none⟩ = false := d6s.free 7
            have yd6s_8 : ((w9.setCell ⟨g6, 7, none⟩ (.bool true))).frozen? ⟨g6, 8, none⟩ = false := d6s.free 8
            have yd6s_9 : ((w9.setCell ⟨g6, 7, none⟩ (.bool true))).frozen? ⟨g6, 9, none⟩ = false := d6s.free 9
            refine wpList_plain rfl fun K hK => ?_; go_simp; refine hK _ _ ?_; clear hK K
            refine wpList_plain rfl fun K hK => ?_; go_simp; refine hK _ _ ?_; clear hK K
            have hne : w.heap.size + 1 ≠ g6 := by have := HG6.out; omega
            have d6c : Cells ((w9.setCell ⟨g6, 7, none⟩ (.bool true)).setCell ⟨g6, 9, none⟩ (.slice A1 1 n1)) g6 #[.int .u8 x.p, .int .u32 x.si, .int .u16 x.sp, .int .u32 x.di, .int .u16 x.dp, .int .u32 x.di, .int .u16 x.dp, .bool true, .int .i64 0, .slice A1 1 n1] 31 := Cells.like (Cells.set_ d6s 9 (.slice A1 1 n1)) (by simp)
            have d1c := Cells.other (Cells.other d1b hne 7 (.bool true)) hne 9 (.slice A1 1 n1)
            have hg6z : w.heap.size + 1 < g6 := HG6.out
            have hnz : w.heap.size ≠ g6 := by omega
            have d0c := Cells.other (Cells.other d0b hnz 7 (.bool true)) hnz 9 (.slice A1 1 n1)
            have d7c := Cells.other (Cells.other d7b (fun e => hg67 e.symm) 7 (.bool true)) (fun e => hg67 e.symm) 9 (.slice A1 1 n1)
            have hown3 : ∀ g, (Value.slice A1 1 n1).ownBlock = some g → g6 < g ∧ g ≠ g7 := fun g hg => ⟨Nat.lt_of_lt_of_le hg68 (hown g hg), fun e => absurd (Nat.lt_of_lt_of_le hg78 (hown g hg)) (by rw [e]; exact Nat.lt_irrefl _)⟩
            have hoff : (Value.slice A1 1 n1).ownBlock ≠ some g6 := fun e => by have := hown g6 e; omega
            have oc := Own.set (Own.set o9 g6 7 (.bool true) hoff) g6 9 (.slice A1 1 n1) hoff
            have lc : Below w.heap.size w ((w9.setCell ⟨g6, 7, none⟩ (.bool true)).setCell ⟨g6, 9, none⟩ (.slice A1 1 n1)) := Below.setCell (Below.setCell l9 (by have := HG6.out; show w.heap.size ≤ g6; omega) _) (by have := HG6.out; show w.heap.size ≤ g6; omega) _
            have hown2 : ∀ g, (Value.slice A1 1 n1).ownBlock = some g → w.heap.size + 1 < g := fun g hg => by have := hown g hg; have := HG6.out; omega
            clear qd0_0 qd0_1 qd0_2 qd0_3 qd0_4 qd1_0 qd1_1 qd1_2 qd1_3 qd1_4 qd1_5 qd1_6 qd1_7 qd1_8 qd1_9 qd6_0 qd6_1 qd6_2 qd6_3 qd6_4 qd6_5 qd6_6 qd6_7 qd6_8 qd6_9 qd7_0 qd7_1 qd7_2 qd7_3 qd7_4 qd7_5 qd7_6 qd7_7 qd7_8 qd7_9 qd7_10 fz fz6 bA bb b2'
            clear yd6s_0 yd6s_1 yd6s_2 yd6s_3 yd6s_4 yd6s_5 yd6s_6 yd6s_7 yd6s_8 yd6s_9 xd6s_0 xd6s_1 xd6s_2 xd6s_3 xd6s_4 xd6s_5 xd6s_6 xd6s_7 xd6s_8 xd6s_9 d6s d6b d1b d0b d7b l9 o9 b9 bn hoff hown hne
            generalize ((w9.setCell ⟨g6, 7, none⟩ (.bool true)).setCell ⟨g6, 9, none⟩ (.slice A1 1 n1)) = w10 at *
            have s10 : Keep14 w g6 g7 x R1 true (.slice A1 1 n1) w10 := ⟨lc, d0c, d1c, d7c, ⟨_, _, d6c⟩⟩
            have k10 := hide s10; have o10 := hide oc; have w3 := hide hown3
            clear s10 oc lc d0c d1c d7c d6c hown2 hown3
            go_upto_region 14 with fail
            have s14 := k10.out.below (Below.drew (Below.refl _ _))
            focus
              refine wp_region_J [14] (fun W => Keep14 w g6 g7 x R1 true (.slice A1 1 n1) W) (by kernel_rfl) (s14) (fun hS0 => ?_)
              refine wpAnyJ_take (i := 0) (v := ?v0_12) rfl (by kernel_rfl) (by kernel_rfl) (by kernel_rfl) (by kernel_rfl) (fun _ _ _ h => h) (Or.inl (And.intro (by kernel_rfl) ?q0_12)) hS0 ?r0_12; (case q0_12 => (intro w hx; obtain ⟨a6, b6, k6⟩ := hx.c6; have y0 := hx.c0.at_ 3; have y1 := hx.c0.at_ 4; have y2 := hx.c7.at_ 9; have y3 := hx.c7.at_ 10; have y4 := k6.at_ 9; (try dsimp only); (try go_simp); (try with_reducible rfl)))
              (try simp only [Act.put, List.setIfInBounds_toArray, List.set_cons_zero, List.set_cons_succ, List.getElem_toArray, List.getElem_cons_succ, List.getElem_cons_zero])
              refine wpAnyJ_take (i := 1) (v := ?v1_13) rfl (by kernel_rfl) (by kernel_rfl) (by kernel_rfl) (by kernel_rfl) (fun _ _ _ h => h) (Or.inl (And.intro (by kernel_rfl) ?q1_13)) hS0 ?r1_13; (case q1_13 => (intro w hx; obtain ⟨a6, b6, k6⟩ := hx.c6; have y0 := hx.c0.at_ 3; have y1 := hx.c0.at_ 4; have y2 := hx.c7.at_ 9; have y3 := hx.c7.at_ 10; have y4 := k6.at_ 9; (try dsimp only); (try go_simp); (try with_reducible rfl)))
              (try simp only [Act.put, List.setIfInBounds_toArray, List.set_cons_zero, List.set_cons_succ, List.getElem_toArray, List.getElem_cons_succ, List.getElem_cons_zero])
              refine wpAnyJ_take (i := 2) (v := ?v2_14) rfl (by kernel_rfl) (by kernel_rfl) (by kernel_rfl) (by kernel_rfl) (fun _ _ _ h => h) (Or.inl (And.intro (by kernel_rfl) ?q2_14)) hS0 ?r2_14; (case q2_14 => (intro w hx; obtain ⟨a6, b6, k6⟩ := hx.c6; have y0 := hx.c0.at_ 3; have y1 := hx.c0.at_ 4; have y2 := hx.c7.at_ 9; have y3 := hx.c7.at_ 10; have y4 := k6.at_ 9; (try dsimp only); (try go_simp); (try with_reducible rfl)))
              (try simp only [Act.put, List.setIfInBounds_toArray, List.set_cons_zero, List.set_cons_succ, List.getElem_toArray, List.getElem_cons_succ, List.getElem_cons_zero])
              refine wpAnyJ_take (i := 3) (v := ?v3_15) rfl (by kernel_rfl) (by kernel_rfl) (by kernel_rfl) (by kernel_rfl) (fun _ _ _ h => h) (Or.inl (And.intro (by kernel_rfl) ?q3_15)) hS0 ?r3_15; (case q3_15 => (intro w hx; obtain ⟨a6, b6, k6⟩ := hx.c6; have y0 := hx.c0.at_ 3; have y1 := hx.c0.at_ 4; have y2 := hx.c7.at_ 9; have y3 := hx.c7.at_ 10; have y4 := k6.at_ 9; (try dsimp only); (try go_simp); (try with_reducible rfl)))
              (try simp only [Act.put, List.setIfInBounds_toArray, List.set_cons_zero, List.set_cons_succ, List.getElem_toArray, List.getElem_cons_succ, List.getElem_cons_zero])
              refine wpAnyJ_take (i := 4) (v := ?v4_16) rfl (by kernel_rfl) (by kernel_rfl) (by kernel_rfl) (by kernel_rfl) (fun _ _ _ h => h) (Or.inl (And.intro (by kernel_rfl) ?q4_16)) hS0 ?r4_16; (case q4_16 => (intro w hx; obtain ⟨a6, b6, k6⟩ := hx.c6; have y0 := hx.c0.at_ 3; have y1 := hx.c0.at_ 4; have y2 := hx.c7.at_ 9; have y3 := hx.c7.at_ 10; have y4 := k6.at_ 9; (try dsimp only); (try go_simp); (try with_reducible rfl)))
              (try simp only [Act.put, List.setIfInBounds_toArray, List.set_cons_zero, List.set_cons_succ, List.getElem_toArray, List.getElem_cons_succ, List.getElem_cons_zero])
              refine wpAnyJ_take (i := 5) (v := ?v5_17) rfl (by kernel_rfl) (by kernel_rfl) (by kernel_rfl) (by kernel_rfl) (fun _ _ _ h => h) (Or.inl (And.intro (by kernel_rfl) ?q5_17)) hS0 ?r5_17; (case q5_17 => (intro w hx; obtain ⟨a6, b6, k6⟩ := hx.c6; have y0 := hx.c0.at_ 3; have y1 := hx.c0.at_ 4; have y2 := hx.c7.at_ 9; have y3 := hx.c7.at_ 10; have y4 := k6.at_ 9; (try dsimp only); (try go_simp); (try with_reducible rfl)))
              (try simp only [Act.put, List.setIfInBounds_toArray, List.set_cons_zero, List.set_cons_succ, List.getElem_toArray, List.getElem_cons_succ, List.getElem_cons_zero])
              refine wpAnyJ_take (i := 6) (v := ?v6_18) rfl (by kernel_rfl) (by kernel_rfl) (by kernel_rfl) (by kernel_rfl) (fun _ _ _ h => h) (Or.inl (And.intro (by kernel_rfl) ?q6_18)) hS0 ?r6_18; (case q6_18 => (intro w hx; obtain ⟨a6, b6, k6⟩ := hx.c6; have y0 := hx.c0.at_ 3; have y1 := hx.c0.at_ 4; have y2 := hx.c7.at_ 9; have y3 := hx.c7.at_ 10; have y4 := k6.at_ 9; (try dsimp only); (try go_simp); (try with_reducible rfl)))
              (try simp only [Act.put, List.setIfInBounds_toArray, List.set_cons_zero, List.set_cons_succ, List.getElem_toArray, List.getElem_cons_succ, List.getElem_cons_zero])
              refine wpAnyJ_take (i := 7) (v := ?v7_19) rfl (by kernel_rfl) (by kernel_rfl) (by kernel_rfl) (by kernel_rfl) (fun _ _ _ h => h) (Or.inl (And.intro (by kernel_rfl) ?q7_19)) hS0 ?r7_19; (case q7_19 => (intro w hx; obtain ⟨a6, b6, k6⟩ := hx.c6; have y0 := hx.c0.at_ 3; have y1 := hx.c0.at_ 4; have y2 := hx.c7.at_ 9; have y3 := hx.c7.at_ 10; have y4 := k6.at_ 9; (try dsimp only); (try go_simp); (try with_reducible rfl)))
              (try simp only [Act.put, List.setIfInBounds_toArray, List.set_cons_zero, List.set_cons_succ, List.getElem_toArray, List.getElem_cons_succ, List.getElem_cons_zero])
              refine wpAnyJ_take (i := 8) (v := ?v8_20) rfl (by kernel_rfl) (by kernel_rfl) (by kernel_rfl) (by kernel_rfl) (fun _ _ _ h => h) (Or.inl (And.intro (by kernel_rfl) ?q8_20)) hS0 ?r8_20; (case q8_20 => (intro w hx; obtain ⟨a6, b6, k6⟩ := hx.c6; have y0 := hx.c0.at_ 3; have y1 := hx.c0.at_ 4; have y2 := hx.c7.at_ 9; have y3 := hx.c7.at_ 10; have y4 := k6.at_ 9; (try dsimp only); (try go_simp); (try with_reducible rfl)))
              (try simp only [Act.put, List.setIfInBounds_toArray, List.set_cons_zero, List.set_cons_succ, List.getElem_toArray, List.getElem_cons_succ, List.getElem_cons_zero])
              refine wpAnyJ_take (i := 11) (v := ?v11_21) rfl (by kernel_rfl) (by kernel_rfl) (by kernel_rfl) (by kernel_rfl) (fun _ _ _ h => h) (Or.inl (And.intro (by kernel_rfl) ?q11_21)) hS0 ?r11_21; (case q11_21 => (intro w hx; obtain ⟨a6, b6, k6⟩ := hx.c6; have y0 := hx.c0.at_ 3; have y1 := hx.c0.at_ 4; have y2 := hx.c7.at_ 9; have y3 := hx.c7.at_ 10; have y4 := k6.at_ 9; (try dsimp only); (try go_simp); (try with_reducible rfl)))
              (try simp only [Act.put, List.setIfInBounds_toArray, List.set_cons_zero, List.set_cons_succ, List.getElem_toArray, List.getElem_cons_succ, List.getElem_cons_zero])
              refine wpAnyJ_ready (rs := [9]) (by kernel_rfl) (by simp) ?_
              refine (AllReadyJ.cons rfl (fun K hK => ?_) AllReadyJ.nil)
              rw [if_pos (by kernel_rfl)]
              (try simp only [List.getElem_toArray, List.getElem_cons_succ, List.getElem_cons_zero])
              (focus go_simp)
              refine hK.out _ _ ?hs (fun hS0 => ?_)
              case hs => (first | with_reducible exact hS0 | with_reducible exact sq | exact hS0.below (fresh_below _ _) | exact hS0.dest hg67 hg6z _ _)
              clear hK K
              (try simp only [Act.put, List.setIfInBounds_toArray, List.set_cons_zero, List.set_cons_succ, List.getElem_toArray, List.getElem_cons_succ, List.getElem_cons_zero])
              refine wpAnyJ_ready (rs := [10]) (by kernel_rfl) (by simp) ?_
              refine (AllReadyJ.cons rfl (fun K hK => ?_) AllReadyJ.nil)
              (focus (refine RowK.step_app (K := wantK) rfl (.tmp 86) (.tmp 92) rfl _ _ rfl rfl [wn] [wantOf R1 x] (RowK.Own.below (RowK.Own.below o10.out (Below.drew (Below.refl _ _))) (fresh_below _ _)) (RowK.Read.one (Cells.new _ _ _)) (by simp) ?_; intro A2 n2 w11 o9 g9 h9; have sq := hS0.app g9 hg6z w3.out; have hz9 : g6 < _ ∧ g7 < _ := (by obtain ⟨a6, b6, k6⟩ := hS0.c6; exact ⟨Cells.lt k6, Cells.lt hS0.c7⟩); have hown : ∀ g, (Value.slice A2 ([wn] ++ [wantOf R1 x]).length n2).ownBlock = some g → g6 < g := (fun g hg => by rcases h9 with e | e; (rw [e] at hg; exact (w3.out g hg).1); (rw [e] at hg; cases hg; exact hz9.1))))
              (focus (try go_wp2_with fail))
              refine hK.out _ _ ?hs (fun hS0 => ?_)
              case hs => (first | with_reducible exact hS0 | with_reducible exact sq | exact hS0.below (fresh_below _ _) | exact hS0.dest hg67 hg6z _ _)
              clear hK K
              (try simp only [Act.put, List.setIfInBounds_toArray, List.set_cons_zero, List.set_cons_succ, List.getElem_toArray, List.getElem_cons_succ, List.getElem_cons_zero])
              refine wpAnyJ_ready (rs := [12]) (by kernel_rfl) (by simp) ?_
              refine (AllReadyJ.cons rfl (fun K hK => ?_) AllReadyJ.nil)
              (focus (rw [if_pos (by kernel_rfl)]; obtain ⟨a6, b6, k6⟩ := hS0.c6; have y5 := k6.at_ 5; have y6 := k6.at_ 6; have f5 := k6.free 5; have f6 := k6.free 6; go_simp))
              (focus (try go_wp2_with fail))
              refine hK.out _ _ ?hs (fun hS0 => ?_)
              case hs => (first | with_reducible exact hS0 | with_reducible exact sq | exact hS0.below (fresh_below _ _) | exact hS0.dest hg67 hg6z _ _)
              clear hK K
              (try simp only [Act.put, List.setIfInBounds_toArray, List.set_cons_zero, List.set_cons_succ, List.getElem_toArray, List.getElem_cons_succ, List.getElem_cons_zero])
              refine wpAnyJ_take (i := 13) (v := ?v13_22) rfl (by kernel_rfl) (by kernel_rfl) (by kernel_rfl) (by kernel_rfl) (fun _ _ _ h => h) (Or.inl (And.intro (by kernel_rfl) ?q13_22)) hS0 ?r13_22; (case q13_22 => (intro w hx; obtain ⟨a6, b6, k6⟩ := hx.c6; have y0 := hx.c0.at_ 3; have y1 := hx.c0.at_ 4; have y2 := hx.c7.at_ 9; have y3 := hx.c7.at_ 10; have y4 := k6.at_ 9; (try dsimp only); (try go_simp); (try with_reducible rfl)))
              (try simp only [Act.put, List.setIfInBounds_toArray, List.set_cons_zero, List.set_cons_succ, List.getElem_toArray, List.getElem_cons_succ, List.getElem_cons_zero])
              refine wpAnyJ_ready (rs := [14]) (by kernel_rfl) (by simp) ?_
              refine (AllReadyJ.last rfl (by kernel_rfl) (fun K hK => ?_) AllReadyJ.nil)
              (focus (rw [if_pos (by kernel_rfl)]; obtain ⟨a6, b6, k6⟩ := hS0.c6; have y9 := k6.at_ 9; have f9 := k6.free 9; go_simp))
              (focus (try go_wp2_with fail))
              refine hK.out _ _ ?_
              clear hK K
              (try simp only [Act.put, List.setIfInBounds_toArray, List.set_cons_zero, List.set_cons_succ, List.getElem_toArray, List.getElem_cons_succ, List.getElem_cons_zero])
              refine wpAnyJ_done (by kernel_rfl) ?_ _
            simp only [List.cons_append, List.nil_append, List.length_cons, List.length_nil, Nat.zero_add] at o9 hown
            obtain ⟨a6, b6, k6⟩ := sq.c6
            have d6c : Cells (((w11.setCell ⟨g6, 5, none⟩ (.int .u32 R1.ia)).setCell ⟨g6, 6, none⟩ (.int .u16 R1.ip)).setCell ⟨g6, 9, none⟩ (.slice A2 2 n2)) g6 #[.int .u8 x.p, .int .u32 x.si, .int .u16 x.sp, .int .u32 x.di, .int .u16 x.dp, .int .u32 R1.ia, .int .u16 R1.ip, .bool true, .int .i64 0, .slice A2 2 n2] 31 := Cells.like (Cells.set_ (Cells.set_ (Cells.set_ k6 5 (.int .u32 R1.ia)) 6 (.int .u16 R1.ip)) 9 (.slice A2 2 n2)) (by simp)
            have d1c := Cells.other hS0.c1 (by omega : w.heap.size + 1 ≠ g6) 9 (.slice A2 2 n2)
            have hoff : (Value.slice A2 2 n2).ownBlock ≠ some g6 := fun e => by have := hown g6 e; omega
            have oc := Own.set (Own.set (Own.set o9 g6 5 (.int .u32 R1.ia) hoff) g6 6 (.int .u16 R1.ip) hoff) g6 9 (.slice A2 2 n2) hoff
            have lc : Below w.heap.size w (((w11.setCell ⟨g6, 5, none⟩ (.int .u32 R1.ia)).setCell ⟨g6, 6, none⟩ (.int .u16 R1.ip)).setCell ⟨g6, 9, none⟩ (.slice A2 2 n2)) := Below.setCell hS0.b (by show w.heap.size ≤ g6; omega) _
            have hown2 : ∀ g, (Value.slice A2 2 n2).ownBlock = some g → w.heap.size + 1 < g := fun g hg => by have := hown g hg; omega
            clear hS0 s14 sq g9 h9 o9 hown hz9 hoff k6 k10 o10 w3
            generalize (((w11.setCell ⟨g6, 5, none⟩ (.int .u32 R1.ia)).setCell ⟨g6, 6, none⟩ (.int .u16 R1.ip)).setCell ⟨g6, 9, none⟩ (.slice A2 2 n2)) = w12 at *
            have xd6c_0 : w12.cell? ⟨g6, 0, none⟩ = some (.int .u8 x.p) := d6c.at_ 0
            have xd6c_1 : w12.cell? ⟨g6, 1, none⟩ = some (.int .u32 x.si) := d6c.at_ 1
            have xd6c_2 : w12.cell? ⟨g6, 2, none⟩ = some (.int .u16 x.sp) := d6c.at_ 2
            have xd6c_3 : w12.cell? ⟨g6, 3, none⟩ = some (.int .u32 x.di) := d6c.at_ 3
            have xd6c_4 : w12.cell? ⟨g6, 4, none⟩ = some (.int .u16 x.dp) := d6c.at_ 4
            have xd6c_5 : w12.cell? ⟨g6, 5, none⟩ = some (.int .u32 R1.ia) := d6c.at_ 5
            have xd6c_6 : w12.cell? ⟨g6, 6, none⟩ = some (.int .u16 R1.ip) := d6c.at_ 6
            have xd6c_7 : w12.cell? ⟨g6, 7, none⟩ = some (.bool true) := d6c.at_ 7
            have xd6c_8 : w12.cell? ⟨g6, 8, none⟩ = some (.int .i64 0) := d6c.at_ 8
            have xd6c_9 : w12.cell? ⟨g6, 9, none⟩ = some (.slice A2 2 n2) := d6c.at_ 9
            have xd1c_0 : w12.cell? ⟨w.heap.size + 1, 0, none⟩ = some (.int .u8 0) := d1c.at_ 0
            have xd1c_1 : w12.cell? ⟨w.heap.size + 1, 1, none⟩ = some (.int .u32 0) := d1c.at_ 1
            have xd1c_2 : w12.cell? ⟨w.heap.size + 1, 2, none⟩ = some (.int .u16 0) := d1c.at_ 2
            have xd1c_3 : w12.cell? ⟨w.heap.size + 1, 3, none⟩ = some (.int .u32 0) := d1c.at_ 3
            have xd1c_4 : w12.cell? ⟨w.heap.size + 1, 4, none⟩ = some (.int .u16 0) := d1c.at_ 4
            have xd1c_5 : w12.cell? ⟨w.heap.size + 1, 5, none⟩ = some (.int .u32 0) := d1c.at_ 5
            have xd1c_6 : w12.cell? ⟨w.heap.size + 1, 6, none⟩ = some (.int .u16 0) := d1c.at_ 6
            have xd1c_7 : w12.cell? ⟨w.heap.size + 1, 7, none⟩ = some (.bool false) := d1c.at_ 7
            have xd1c_8 : w12.cell? ⟨w.heap.size + 1, 8, none⟩ = some (.int .i64 0) := d1c.at_ 8
            have xd1c_9 : w12.cell? ⟨w.heap.size + 1, 9, none⟩ = some (.slice none 0 0) := d1c.at_ 9
            have yd1c_0 : w12.frozen? ⟨w.heap.size + 1, 0, none⟩ = false := d1c.free 0
            have yd1c_1 : w12.frozen? ⟨w.heap.size + 1, 1, none⟩ = false := d1c.free 1
            have yd1c_2 : w12.frozen? ⟨w.heap.size + 1, 2, none⟩ = false := d1c.free 2
            have yd1c_3 : w12.frozen? ⟨w.heap.size + 1, 3, none⟩ = false := d1c.free 3
            have yd1c_4 : w12.frozen? ⟨w.heap.size + 1, 4, none⟩ = false := d1c.free 4
            have yd1c_5 : w12.frozen? ⟨w.heap.size + 1, 5, none⟩ = false := d1c.free 5
            have yd1c_6 : w12.frozen? ⟨w.heap.size + 1, 6, none⟩ = false := d1c.free 6
            have yd1c_7 : w12.frozen? ⟨w.heap.size + 1, 7, none⟩ = false := d1c.free 7
            have yd1c_8 : w12.frozen? ⟨w.heap.size + 1, 8, none⟩ = false := d1c.free 8
            have yd1c_9 : w12.frozen? ⟨w.heap.size + 1, 9, none⟩ = false := d1c.free 9
            go_upto_region 15 with fail
            go_wp2_with fail
            clear xd6c_0 xd1c_0 yd1c_0 xd6c_1 xd1c_1 yd1c_1 xd6c_2 xd1c_2 yd1c_2 xd6c_3 xd1c_3 yd1c_3 xd6c_4 xd1c_4 yd1c_4 xd6c_5 xd1c_5 yd1c_5 xd6c_6 xd1c_6 yd1c_6 xd6c_7 xd1c_7 yd1c_7 xd6c_8 xd1c_8 yd1c_8 xd6c_9 xd1c_9 yd1c_9
            have q5 : Only (fun i => i = w.heap.size + 1) w12 ((((((((((w12.setCell ⟨w.heap.size + 1, 0, none⟩ (.int .u8 x.p)).setCell ⟨w.heap.size + 1, 1, none⟩ (.int .u32 x.si)).setCell ⟨w.heap.size + 1, 2, none⟩ (.int .u16 x.sp)).setCell ⟨w.heap.size + 1, 3, none⟩ (.int .u32 x.di)).setCell ⟨w.heap.size + 1, 4, none⟩ (.int .u16 x.dp)).setCell ⟨w.heap.size + 1, 5, none⟩ (.int .u32 R1.ia)).setCell ⟨w.heap.size + 1, 6, none⟩ (.int .u16 R1.ip)).setCell ⟨w.heap.size + 1, 7, none⟩ (.bool true)).setCell ⟨w.heap.size + 1, 8, none⟩ (.int .i64 0)).setCell ⟨w.heap.size + 1, 9, none⟩ (.slice A2 2 n2)) := by repeat' (first | with_reducible exact Only.refl _ _ | with_reducible refine Only.setAt ?_ _ _ (Or.inl rfl))
            have hoff : (Value.slice A2 2 n2).ownBlock ≠ some (w.heap.size + 1) := fun e => by have := hown2 _ e; omega
            have o5 := Own.other oc q5 hoff
            clear q5
            have r5 := (Cells.put10 d1c (.int .u8 x.p) (.int .u32 x.si) (.int .u16 x.sp) (.int .u32 x.di) (.int .u16 x.dp) (.int .u32 R1.ia) (.int .u16 R1.ip) (.bool true) (.int .i64 0) (.slice A2 2 n2))
            have b5 := (Below.put10 lc (b := w.heap.size + 1) (by first | exact Nat.le_refl _ | omega) (.int .u8 x.p) (.int .u32 x.si) (.int .u16 x.sp) (.int .u32 x.di) (.int .u16 x.dp) (.int .u32 R1.ia) (.int .u16 R1.ip) (.bool true) (.int .i64 0) (.slice A2 2 n2))
            have HR5 := hide r5; have HB5 := hide b5
            clear r5 b5 d1c
            generalize ((((((((((w12.setCell ⟨w.heap.size + 1, 0, none⟩ (.int .u8 x.p)).setCell ⟨w.heap.size + 1, 1, none⟩ (.int .u32 x.si)).setCell ⟨w.heap.size + 1, 2, none⟩ (.int .u16 x.sp)).setCell ⟨w.heap.size + 1, 3, none⟩ (.int .u32 x.di)).setCell ⟨w.heap.size + 1, 4, none⟩ (.int .u16 x.dp)).setCell ⟨w.heap.size + 1, 5, none⟩ (.int .u32 R1.ia)).setCell ⟨w.heap.size + 1, 6, none⟩ (.int .u16 R1.ip)).setCell ⟨w.heap.size + 1, 7, none⟩ (.bool true)).setCell ⟨w.heap.size + 1, 8, none⟩ (.int .i64 0)).setCell ⟨w.heap.size + 1, 9, none⟩ (.slice A2 2 n2)) = W5 at *
            have r5 := HR5.out; have b5 := HB5.out
            clear HR5 HB5
            have xr5_0 : W5.cell? ⟨w.heap.size + 1, 0, none⟩ = some (.int .u8 x.p) := r5.at_ 0
            have xr5_1 : W5.cell? ⟨w.heap.size + 1, 1, none⟩ = some (.int .u32 x.si) := r5.at_ 1
            have xr5_2 : W5.cell? ⟨w.heap.size + 1, 2, none⟩ = some (.int .u16 x.sp) := r5.at_ 2
            have xr5_3 : W5.cell? ⟨w.heap.size + 1, 3, none⟩ = some (.int .u32 x.di) := r5.at_ 3
            have xr5_4 : W5.cell? ⟨w.heap.size + 1, 4, none⟩ = some (.int .u16 x.dp) := r5.at_ 4
            have xr5_5 : W5.cell? ⟨w.heap.size + 1, 5, none⟩ = some (.int .u32 R1.ia) := r5.at_ 5
            have xr5_6 : W5.cell? ⟨w.heap.size + 1, 6, none⟩ = some (.int .u16 R1.ip) := r5.at_ 6
            have xr5_7 : W5.cell? ⟨w.heap.size + 1, 7, none⟩ = some (.bool true) := r5.at_ 7
            have xr5_8 : W5.cell? ⟨w.heap.size + 1, 8, none⟩ = some (.int .i64 0) := r5.at_ 8
            have xr5_9 : W5.cell? ⟨w.heap.size + 1, 9, none⟩ = some (.slice A2 2 n2) := r5.at_ 9
            (try simp only [Exit.inBlock, Exit.then]); refine bodyPost_ret (by simp [results, Tryd.results23, go_sem, *]; try rfl) rfl ?_
            (try simp only [Bool.true_and, Bool.false_and, Bool.and_true, Bool.and_false, Bool.false_or, Bool.or_false, Bool.true_or, Bool.or_true, Bool.not_true, Bool.not_false, Bool.false_eq_true, if_false, if_true, List.append_nil, List.nil_append])
            exact ⟨_, rfl, o5, (fun g e => Nat.le_of_lt (Nat.lt_of_succ_lt (hown2 g e))), b5⟩
        · cases e2
          · cases xo
            · simp only [Bool.true_and, Bool.false_and, Bool.and_false, Bool.false_or, Bool.or_false, Bool.not_true, Bool.not_false, Bool.false_eq_true, if_false, if_true]
              go_wp2_with (first | (go_at_call 37; (with_reducible refine (C2.out _ (bstep L0.out (by assumption))).mono ?_); rintro e2 w2 ⟨rfl, b2⟩; have b2' := bstep (by assumption : Below w7.heap.size w7 _) b2; clear b2) | (go_at_call 39; (with_reducible refine (C4.out _ (bstep L0.out (by assumption))).mono ?_); rintro e2 w2 ⟨rfl, b2⟩; have b2' := bstep (by assumption : Below w7.heap.size w7 _) b2; clear b2))
              have d1 := Cells.below (bA _ (.cells #[.bool wn.fx, .int .u32 wn.ii, .int .u16 wn.ip, .int .u32 wn.oi, .int .u16 wn.op, .int .u32 wn.a, .int .u16 wn.f, .int .u16 wn.t] 40) b2') D1.out
              have l2 := bstep L0.out (bA _ (.cells #[.bool wn.fx, .int .u32 wn.ii, .int .u16 wn.ip, .int .u32 wn.oi, .int .u16 wn.op, .int .u32 wn.a, .int .u16 wn.f, .int .u16 wn.t] 40) b2')
              clear qd0_0 qd0_1 qd0_2 qd0_3 qd0_4 qd1_0 qd1_1 qd1_2 qd1_3 qd1_4 qd1_5 qd1_6 qd1_7 qd1_8 qd1_9 qd6_0 qd6_1 qd6_2 qd6_3 qd6_4 qd6_5 qd6_6 qd6_7 qd6_8 qd6_9 qd7_0 qd7_1 qd7_2 qd7_3 qd7_4 qd7_5 qd7_6 qd7_7 qd7_8 qd7_9 qd7_10 fz fz6 bA bb
              have r5 := (Cells.put10 d1 (.int .u8 0) (.int .u32 0) (.int .u16 0) (.int .u32 0) (.int .u16 0) (.int .u32 0) (.int .u16 0) (.bool false) (.int .i64 0) (.slice none 0 0))
              have b5 := (Below.put10 l2 (b := w.heap.size + 1) (by first | exact Nat.le_refl _ | omega) (.int .u8 0) (.int .u32 0) (.int .u16 0) (.int .u32 0) (.int .u16 0) (.int .u32 0) (.int .u16 0) (.bool false) (.int .i64 0) (.slice none 0 0))
              have HR5 := hide r5; have HB5 := hide b5
              clear r5 b5 d1
              generalize ((((((((((((w2.alloc (.cells #[.bool wn.fx, .int .u32 wn.ii, .int .u16 wn.ip, .int .u32 wn.oi, .int .u16 wn.op, .int .u32 wn.a, .int .u16 wn.f, .int .u16 wn.t] 40))).setCell ⟨w.heap.size + 1, 0, none⟩ (.int .u8 0)).setCell ⟨w.heap.size + 1, 1, none⟩ (.int .u32 0)).setCell ⟨w.heap.size + 1, 2, none⟩ (.int .u16 0)).setCell ⟨w.heap.size + 1, 3, none⟩ (.int .u32 0)).setCell ⟨w.heap.size + 1, 4, none⟩ (.int .u16 0)).setCell ⟨w.heap.size + 1, 5, none⟩ (.int .u32 0)).setCell ⟨w.heap.size + 1, 6, none⟩ (.int .u16 0)).setCell ⟨w.heap.size + 1, 7, none⟩ (.bool false)).setCell ⟨w.heap.size + 1, 8, none⟩ (.int .i64 0)).setCell ⟨w.heap.size + 1, 9, none⟩ (.slice none 0 0)) = W5 at *
              have r5 := HR5.out; have b5 := HB5.out
              clear HR5 HB5
              have xr5_0 : W5.cell? ⟨w.heap.size + 1, 0, none⟩ = some (.int .u8 0) := r5.at_ 0
              have xr5_1 : W5.cell? ⟨w.heap.size + 1, 1, none⟩ = some (.int .u32 0) := r5.at_ 1
              have xr5_2 : W5.cell? ⟨w.heap.size + 1, 2, none⟩ = some (.int .u16 0) := r5.at_ 2
              have xr5_3 : W5.cell? ⟨w.heap.size + 1, 3, none⟩ = some (.int .u32 0) := r5.at_ 3
              have xr5_4 : W5.cell? ⟨w.heap.size + 1, 4, none⟩ = some (.int .u16 0) := r5.at_ 4
              have xr5_5 : W5.cell? ⟨w.heap.size + 1, 5, none⟩ = some (.int .u32 0) := r5.at_ 5
              have xr5_6 : W5.cell? ⟨w.heap.size + 1, 6, none⟩ = some (.int .u16 0) := r5.at_ 6
              have xr5_7 : W5.cell? ⟨w.heap.size + 1, 7, none⟩ = some (.bool false) := r5.at_ 7
              have xr5_8 : W5.cell? ⟨w.heap.size + 1, 8, none⟩ = some (.int .i64 0) := r5.at_ 8
              have xr5_9 : W5.cell? ⟨w.heap.size + 1, 9, none⟩ = some (.slice none 0 0) := r5.at_ 9
              (try simp only [Exit.inBlock, Exit.then]); refine bodyPost_ret (by simp [results, Tryd.results23, go_sem, *]; try rfl) rfl ?_
              exact ⟨_, rfl, RowK.Own.nil _, (fun g e => by cases e), b5⟩
            · simp only [Bool.true_and, Bool.false_and, Bool.and_false, Bool.false_or, Bool.or_false, Bool.not_true, Bool.not_false, Bool.false_eq_true, if_false, if_true]
              go_upto_region 12 with (first | (go_at_call 37; (with_reducible refine (C2.out _ (bstep L0.out (by assumption))).mono ?_); rintro e2 w2 ⟨rfl, b2⟩; have b2' := bstep (by assumption : Below w7.heap.size w7 _) b2; clear b2) | (go_at_call 39; (with_reducible refine (C4.out _ (bstep L0.out (by assumption))).mono ?_); rintro e2 w2 ⟨rfl, b2⟩; have b2' := bstep (by assumption : Below w7.heap.size w7 _) b2; clear b2))
              have nn := Cells.new w2 #[.bool wn.fx, .int .u32 wn.ii, .int .u16 wn.ip, .int .u32 wn.oi, .int .u16 wn.op, .int .u32 wn.a, .int .u16 wn.f, .int .u16 wn.t] 40
              have bn : Below w7.heap.size w7 (w2.alloc (.cells #[.bool wn.fx, .int .u32 wn.ii, .int .u16 wn.ip, .int .u32 wn.oi, .int .u16 wn.op, .int .u32 wn.a, .int .u16 wn.f, .int .u16 wn.t] 40)) := bA _ _ b2'
              generalize w2.heap.size = g10 at nn ⊢
              generalize (w2.alloc (.cells #[.bool wn.fx, .int .u32 wn.ii, .int .u16 wn.ip, .int .u32 wn.oi, .int .u16 wn.op, .int .u32 wn.a, .int .u16 wn.f, .int .u16 wn.t] 40)) = w8 at *
              have d6 := Cells.below bn D6.out
              have xd6_0 : w8.cell? ⟨g6, 0, none⟩ = some (.int .u8 x.p) := d6.at_ 0
              have xd6_1 : w8.cell? ⟨g6, 1, none⟩ = some (.int .u32 x.si) := d6.at_ 1
              have xd6_2 : w8.cell? ⟨g6, 2, none⟩ = some (.int .u16 x.sp) := d6.at_ 2
              have xd6_3 : w8.cell? ⟨g6, 3, none⟩ = some (.int .u32 x.di) := d6.at_ 3
              have xd6_4 : w8.cell? ⟨g6, 4, none⟩ = some (.int .u16 x.dp) := d6.at_ 4
              have xd6_5 : w8.cell? ⟨g6, 5, none⟩ = some (.int .u32 x.di) := d6.at_ 5
              have xd6_6 : w8.cell? ⟨g6, 6, none⟩ = some (.int .u16 x.dp) := d6.at_ 6
              have xd6_7 : w8.cell? ⟨g6, 7, none⟩ = some (.bool false) := d6.at_ 7
              have xd6_8 : w8.cell? ⟨g6, 8, none⟩ = some (.int .i64 0) := d6.at_ 8
              have xd6_9 : w8.cell? ⟨g6, 9, none⟩ = some (.slice none 0 0) := d6.at_ 9
              have xnn_0 : w8.cell? ⟨g10, 0, none⟩ = some (.bool wn.fx) := nn.at_ 0
              have xnn_1 : w8.cell? ⟨g10, 1, none⟩ = some (.int .u32 wn.ii) := nn.at_ 1
              have xnn_2 : w8.cell? ⟨g10, 2, none⟩ = some (.int .u16 wn.ip) := nn.at_ 2
              have xnn_3 : w8.cell? ⟨g10, 3, none⟩ = some (.int .u32 wn.oi) := nn.at_ 3
              have xnn_4 : w8.cell? ⟨g10, 4, none⟩ = some (.int .u16 wn.op) := nn.at_ 4
              have xnn_5 : w8.cell? ⟨g10, 5, none⟩ = some (.int .u32 wn.a) := nn.at_ 5
              have xnn_6 : w8.cell? ⟨g10, 6, none⟩ = some (.int .u16 wn.f) := nn.at_ 6
              have xnn_7 : w8.cell? ⟨g10, 7, none⟩ = some (.int .u16 wn.t) := nn.at_ 7
              refine wp_region_lit ?_
              refine wpList_plain rfl fun K hK => ?_; go_simp; refine hK _ _ ?_; clear hK K
              refine wpList_plain rfl fun K hK => ?_; go_simp; refine hK _ _ ?_; clear hK K
              refine wpList_plain rfl fun K hK => ?_; go_simp; refine hK _ _ ?_; clear hK K
              refine wpList_plain rfl fun K hK => ?_; go_simp; refine hK _ _ ?_; clear hK K
              refine wpList_plain rfl fun K hK => ?_
              refine RowK.wp_app (K := wantK) (.tmp 76) (.tmp 78) rfl _ _ rfl rfl [] [wn] (RowK.Own.nil _) (RowK.Read.one (Cells.new w8 _ _)) (by simp) ?_
              intro A1 n1 w9 o9 g9 h9
              refine hK _ _ ?_; clear hK K
              simp only [List.nil_append, List.length_cons, List.length_nil, Nat.zero_add] at o9 h9 ⊢
              have b9 : Below w8.heap.size w8 w9 := (fresh_below w8 (.cells #[.bool wn.fx, .int .u32 wn.ii, .int .u16 wn.ip, .int .u32 wn.oi, .int .u16 wn.op, .int .u32 wn.a, .int .u16 wn.f, .int .u16 wn.t] 40)).grown g9 (by simp) (fun k hk => by cases hk)
              have hown : ∀ g, (Value.slice A1 1 n1).ownBlock = some g → w8.heap.size ≤ g := fun g hg => by
                rcases h9 with e | e
                · rw [e] at hg; cases hg
                · rw [e] at hg; cases hg; simp
              have d6b := Cells.below b9 d6
              have hg68 : g6 < w8.heap.size := Cells.lt d6
              have d1b := Cells.below b9 (Cells.below bn D1.out)
              have l9 := bstep (bstep L0.out bn) b9
              have hg67 : g6 ≠ g7 := fun e => by
                have h1 := D6.out; have h2 := D7.out
                rw [← e] at h2
                have h3 := h1.symm.trans h2
                simp at h3
              have hg78 : g7 < w8.heap.size := Cells.lt (Cells.below bn D7.out)
              have d0b := Cells.below b9 (Cells.below bn D0.out)
              have d7b := Cells.below b9 (Cells.below bn D7.out)
              clear xd6_0 xd6_1 xd6_2 xd6_3 xd6_4 xd6_5 xd6_6 xd6_7 xd6_8 xd6_9 xnn_0 xnn_1 xnn_2 xnn_3 xnn_4 xnn_5 xnn_6 xnn_7 nn d6 g9 h9
              have xd6b_0 : w9.cell? ⟨g6, 0, none⟩ = some (.int .u8 x.p) := d6b.at_ 0
              have xd6b_1 : w9.cell? ⟨g6, 1, none⟩ = some (.int .u32 x.si) := d6b.at_ 1
              have xd6b_2 : w9.cell? ⟨g6, 2, none⟩ = some (.int .u16 x.sp) := d6b.at_ 2
              have xd6b_3 : w9.cell? ⟨g6, 3, none⟩ = some (.int .u32 x.di) := d6b.at_ 3
              have xd6b_4 : w9.cell? ⟨g6, 4, none⟩ = some (.int .u16 x.dp) := d6b.at_ 4
              have xd6b_5 : w9.cell? ⟨g6, 5, none⟩ = some (.int .u32 x.di) := d6b.at_ 5
              have xd6b_6 : w9.cell? ⟨g6, 6, none⟩ = some (.int .u16 x.dp) := d6b.at_ 6
              have xd6b_7 : w9.cell? ⟨g6, 7, none⟩ = some (.bool false) := d6b.at_ 7
              have xd6b_8 : w9.cell? ⟨g6, 8, none⟩ = some (.int .i64 0) := d6b.at_ 8
              have xd6b_9 : w9.cell? ⟨g6, 9, none⟩ = some (.slice none 0 0) := d6b.at_ 9
              have yd6b_0 : w9.frozen? ⟨g6, 0, none⟩ = false := d6b.free 0
              have yd6b_1 : w9.frozen? ⟨g6, 1, none⟩ = false := d6b.free 1
              have yd6b_2 : w9.frozen? ⟨g6, 2, none⟩ = false := d6b.free 2
              have yd6b_3 : w9.frozen? ⟨g6, 3, none⟩ = false := d6b.free 3
              have yd6b_4 : w9.frozen? ⟨g6, 4, none⟩ = false := d6b.free 4
              have yd6b_5 : w9.frozen? ⟨g6, 5, none⟩ = false := d6b.free 5
              have yd6b_6 : w9.frozen? ⟨g6, 6, none⟩ = false := d6b.free 6
              have yd6b_7 : w9.frozen? ⟨g6, 7, none⟩ = false := d6b.free 7
              have yd6b_8 : w9.frozen? ⟨g6, 8, none⟩ = false := d6b.free 8
              have yd6b_9 : w9.frozen? ⟨g6, 9, none⟩ = false := d6b.free 9
              refine wpList_plain rfl fun K hK => ?_; go_simp; refine hK _ _ ?_; clear hK K
              refine wpList_plain rfl fun K hK => ?_; go_simp; refine hK _ _ ?_; clear hK K
              have d6s : Cells (w9.setCell ⟨g6, 7, none⟩ (.bool true)) g6 #[.int .u8 x.p, .int .u32 x.si, .int .u16 x.sp, .int .u32 x.di, .int .u16 x.dp, .int .u32 x.di, .int .u16 x.dp, .bool true, .int .i64 0, .slice none 0 0] 31 := Cells.like (Cells.set_ d6b 7 (.bool true)) (by simp)
              clear xd6b_0 xd6b_1 xd6b_2 xd6b_3 xd6b_4 xd6b_5 xd6b_6 xd6b_7 xd6b_8 xd6b_9 yd6b_0 yd6b_1 yd6b_2 yd6b_3 yd6b_4 yd6b_5 yd6b_6 yd6b_7 yd6b_8 yd6b_9
              have xd6s_0 : ((w9.setCell ⟨g6, 7, none⟩ (.bool true))).cell? ⟨g6, 0, none⟩ = some (.int .u8 x.p) := d6s.at_ 0
              have xd6s_1 : ((w9.setCell ⟨g6, 7, none⟩ (.bool true))).cell? ⟨g6, 1, none⟩ = some (.int .u32 x.si) := d6s.at_ 1
              have xd6s_2 : ((w9.setCell ⟨g6, 7, none⟩ (.bool true))).cell? ⟨g6, 2, none⟩ = some (.int .u16 x.sp) := d6s.at_ 2
              have xd6s_3 : ((w9.setCell ⟨g6, 7, none⟩ (.bool true))).cell? ⟨g6, 3, none⟩ = some (.int .u32 x.di) := d6s.at_ 3
              have xd6s_4 : ((w9.setCell ⟨g6, 7, none⟩ (.bool true))).cell? ⟨g6, 4, none⟩ = some (.int .u16 x.dp) := d6s.at_ 4
              have xd6s_5 : ((w9.setCell ⟨g6, 7, none⟩ (.bool true))).cell? ⟨g6, 5, none⟩ = some (.int .u32 x.di) := d6s.at_ 5
              have xd6s_6 : ((w9.setCell ⟨g6, 7, none⟩ (.bool true))).cell? ⟨g6, 6, none⟩ = some (.int .u16 x.dp) := d6s.at_ 6
              have xd6s_7 : ((w9.setCell ⟨g6, 7, none⟩ (.bool true))).cell? ⟨g6, 7, none⟩ = some (.bool true) := d6s.at_ 7
              have xd6s_8 : ((w9.setCell ⟨g6, 7, none⟩ (.bool true))).cell? ⟨g6, 8, none⟩ = some (.int .i64 0) := d6s.at_ 8
              have xd6s_9 : ((w9.setCell ⟨g6, 7, none⟩ (.bool true))).cell? ⟨g6, 9, none⟩ = some (.slice none 0 0) := d6s.at_ 9
              have yd6s_0 : ((w9.setCell ⟨g6, 7, none⟩ (.bool true))).frozen? ⟨g6, 0, none⟩ = false := d6s.free 0
              have yd6s_1 : ((w9.setCell ⟨g6, 7, none⟩ (.bool true))).frozen? ⟨g6, 1, none⟩ = false := d6s.free 1
              have yd6s_2 : ((w9.setCell ⟨g6, 7, none⟩ (.bool true))).frozen? ⟨g6, 2, none⟩ = false := d6s.free 2
              have yd6s_3 : ((w9.setCell ⟨g6, 7, none⟩ (.bool true))).frozen? ⟨g6, 3, none⟩ = false := d6s.free 3
              have yd6s_4 : ((w9.setCell ⟨g6, 7, none⟩ (.bool true))).frozen? ⟨g6, 4, none⟩ = false := d6s.free 4
              have yd6s_5 : ((w9.setCell ⟨g6, 7, none⟩ (.bool true))).frozen? ⟨g6, 5, none⟩ = false := d6s.free 5
              have yd6s_6 : ((w9.setCell ⟨g6, 7, none⟩ (.bool true))).frozen? ⟨g6, 6, none⟩ = false := d6s.free 6
              have yd6s_7 : ((w9.setCell ⟨g6, 7, none⟩ (.bool true))).frozen? ⟨g6, 7, none⟩ = false := d6s.free 7
              have yd6s_8 : ((w9.setCell ⟨g6, 7, none⟩ (.bool true))).frozen? ⟨g6, 8, none⟩ = false := d6s.free 8
              have yd6s_9 : ((w9.setCell ⟨g6, 7, none⟩ (.bool true))).frozen? ⟨g6, 9, none⟩ = false := d6s.free 9
              refine wpList_plain rfl fun K hK => ?_; go_simp; refine hK _ _ ?_; clear hK K
              refine wpList_plain rfl fun K hK => ?_; go_simp; refine hK _ _ ?_; clear hK K
              have hne : w.heap.size + 1 ≠ g6 := by have := HG6.out; omega
              have d6c : Cells ((w9.setCell ⟨g6, 7, none⟩ (.bool true)).setCell ⟨g6, 9, none⟩ (.slice A1 1 n1)) g6 #[.int .u8 x.p, .int .u32 x.si, .int .u16 x.sp, .int .u32 x.di, .int .u16 x.dp, .int .u32 x.di, .int .u16 x.dp, .bool true, .int .i64 0, .slice A1 1 n1] 31 := Cells.like (Cells.set_ d6s 9 (.slice A1 1 n1)) (by simp)
              have d1c := Cells.other (Cells.other d1b hne 7 (.bool true)) hne 9 (.slice A1 1 n1)
              have hg6z : w.heap.size + 1 < g6 := HG6.out
              have hnz : w.heap.size ≠ g6 := by omega
              have d0c := Cells.other (Cells.other d0b hnz 7 (.bool true)) hnz 9 (.slice A1 1 n1)
              have d7c := Cells.other (Cells.other d7b (fun e => hg67 e.symm) 7 (.bool true)) (fun e => hg67 e.symm) 9 (.slice A1 1 n1)
              have hown3 : ∀ g, (Value.slice A1 1 n1).ownBlock = some g → g6 < g ∧ g ≠ g7 := fun g hg => ⟨Nat.lt_of_lt_of_le hg68 (hown g hg), fun e => absurd (Nat.lt_of_lt_of_le hg78 (hown g hg)) (by rw [e]; exact Nat.lt_irrefl _)⟩
              have hoff : (Value.slice A1 1 n1).ownBlock ≠ some g6 := fun e => by have := hown g6 e; omega
              have oc := Own.set (Own.set o9 g6 7 (.bool true) hoff) g6 9 (.slice A1 1 n1) hoff
              have lc : Below w.heap.size w ((w9.setCell ⟨g6, 7, none⟩ (.bool true)).setCell ⟨g6, 9, none⟩ (.slice A1 1 n1)) := Below.setCell (Below.setCell l9 (by have := HG6.out; show w.heap.size ≤ g6; omega) _) (by have := HG6.out; show w.heap.size ≤ g6; omega) _
              have hown2 : ∀ g, (Value.slice A1 1 n1).ownBlock = some g → w.heap.size + 1 < g := fun g hg => by have := hown g hg; have := HG6.out; omega
              clear qd0_0 qd0_1 qd0_2 qd0_3 qd0_4 qd1_0 qd1_1 qd1_2 qd1_3 qd1_4 qd1_5 qd1_6 qd1_7 qd1_8 qd1_9 qd6_0 qd6_1 qd6_2 qd6_3 qd6_4 qd6_5 qd6_6 qd6_7 qd6_8 qd6_9 qd7_0 qd7_1 qd7_2 qd7_3 qd7_4 qd7_5 qd7_6 qd7_7 qd7_8 qd7_9 qd7_10 fz fz6 bA bb b2'
              clear yd6s_0 yd6s_1 yd6s_2 yd6s_3 yd6s_4 yd6s_5 yd6s_6 yd6s_7 yd6s_8 yd6s_9 xd6s_0 xd6s_1 xd6s_2 xd6s_3 xd6s_4 xd6s_5 xd6s_6 xd6s_7 xd6s_8 xd6s_9 d6s d6b d1b d0b d7b l9 o9 b9 bn hoff hown hne
              generalize ((w9.setCell ⟨g6, 7, none⟩ (.bool true)).setCell ⟨g6, 9, none⟩ (.slice A1 1 n1)) = w10 at *
              have s10 : Keep14 w g6 g7 x R1 true (.slice A1 1 n1) w10 := ⟨lc, d0c, d1c, d7c, ⟨_, _, d6c⟩⟩
              have k10 := hide s10; have o10 := hide oc; have w3 := hide hown3
              clear s10 oc lc d0c d1c d7c d6c hown2 hown3
              go_upto_region 14 with fail
              have s14 := k10.out.below (Below.drew (Below.refl _ _))
              focus
                refine wp_region_J [14] (fun W => Keep14 w g6 g7 x R1 true (.slice A1 1 n1) W) (by kernel_rfl) (s14) (fun hS0 => ?_)
                refine wpAnyJ_take (i := 0) (v := ?v0_23) rfl (by kernel_rfl) (by kernel_rfl) (by kernel_rfl) (by kernel_rfl) (fun _ _ _ h => h) (Or.inl (And.intro (by kernel_rfl) ?q0_23)) hS0 ?r0_23; (case q0_23 => (intro w hx; obtain ⟨a6, b6, k6⟩ := hx.c6; have y0 := hx.c0.at_ 3; have y1 := hx.c0.at_ 4; have y2 := hx.c7.at_ 9; have y3 := hx.c7.at_ 10; have y4 := k6.at_ 9; (try dsimp only); (try go_simp); (try with_reducible rfl)))
                (try simp only [Act.put, List.setIfInBounds_toArray, List.set_cons_zero, List.set_cons_succ, List.getElem_toArray, List.getElem_cons_succ, List.getElem_cons_zero])
                refine wpAnyJ_take (i := 1) (v := ?v1_24) rfl (by kernel_rfl) (by kernel_rfl) (by kernel_rfl) (by kernel_rfl) (fun _ _ _ h => h) (Or.inl (And.intro (by kernel_rfl) ?q1_24)) hS0 ?r1_24; (case q1_24 => (intro w hx; obtain ⟨a6, b6, k6⟩ := hx.c6; have y0 := hx.c0.at_ 3; have y1 := hx.c0.at_ 4; have y2 := hx.c7.at_ 9; have y3 := hx.c7.at_ 10; have y4 := k6.at_ 9; (try dsimp only); (try go_simp); (try with_reducible rfl)))
                (try simp only [Act.put, List.setIfInBounds_toArray, List.set_cons_zero, List.set_cons_succ, List.getElem_toArray, List.getElem_cons_succ, List.getElem_cons_zero])
                refine wpAnyJ_take (i := 2) (v := ?v2_25) rfl (by kernel_rfl) (by kernel_rfl) (by kernel_rfl) (by kernel_rfl) (fun _ _ _ h => h) (Or.inl (And.intro (by kernel_rfl) ?q2_25)) hS0 ?r2_25; (case q2_25 => (intro w hx; obtain ⟨a6, b6, k6⟩ := hx.c6; have y0 := hx.c0.at_ 3; have y1 := hx.c0.at_ 4; have y2 := hx.c7.at_ 9; have y3 := hx.c7.at_ 10; have y4 := k6.at_ 9; (try dsimp only); (try go_simp); (try with_reducible rfl)))
                (try simp only [Act.put, List.setIfInBounds_toArray, List.set_cons_zero, List.set_cons_succ, List.getElem_toArray, List.getElem_cons_succ, List.getElem_cons_zero])
                refine wpAnyJ_take (i := 3) (v := ?v3_26) rfl (by kernel_rfl) (by kernel_rfl) (by kernel_rfl) (by kernel_rfl) (fun _ _ _ h => h) (Or.inl (And.intro (by kernel_rfl) ?q3_26)) hS0 ?r3_26; (case q3_26 => (intro w hx; obtain ⟨a6, b6, k6⟩ := hx.c6; have y0 := hx.c0.at_ 3; have y1 := hx.c0.at_ 4; have y2 := hx.c7.at_ 9; have y3 := hx.c7.at_ 10; have y4 := k6.at_ 9; (try dsimp only); (try go_simp); (try with_reducible rfl)))
                (try simp only [Act.put, List.setIfInBounds_toArray, List.set_cons_zero, List.set_cons_succ, List.getElem_toArray, List.getElem_cons_succ, List.getElem_cons_zero])
                refine wpAnyJ_take (i := 4) (v := ?v4_27) rfl (by kernel_rfl) (by kernel_rfl) (by kernel_rfl) (by kernel_rfl) (fun _ _ _ h => h) (Or.inl (And.intro (by kernel_rfl) ?q4_27)) hS0 ?r4_27; (case q4_27 => (intro w hx; obtain ⟨a6, b6, k6⟩ := hx.c6; have y0 := hx.c0.at_ 3; have y1 := hx.c0.at_ 4; have y2 := hx.c7.at_ 9; have y3 := hx.c7.at_ 10; have y4 := k6.at_ 9; (try dsimp only); (try go_simp); (try with_reducible rfl)))
                (try simp only [Act.put, List.setIfInBounds_toArray, List.set_cons_zero, List.set_cons_succ, List.getElem_toArray, List.getElem_cons_succ, List.getElem_cons_zero])
                refine wpAnyJ_take (i := 5) (v := ?v5_28) rfl (by kernel_rfl) (by kernel_rfl) (by kernel_rfl) (by kernel_rfl) (fun _ _ _ h => h) (Or.inl (And.intro (by kernel_rfl) ?q5_28)) hS0 ?r5_28; (case q5_28 => (intro w hx; obtain ⟨a6, b6, k6⟩ := hx.c6; have y0 := hx.c0.at_ 3; have y1 := hx.c0.at_ 4; have y2 := hx.c7.at_ 9; have y3 := hx.c7.at_ 10; have y4 := k6.at_ 9; (try dsimp only); (try go_simp); (try with_reducible rfl)))
                (try simp only [Act.put, List.setIfInBounds_toArray, List.set_cons_zero, List.set_cons_succ, List.getElem_toArray, List.getElem_cons_succ, List.getElem_cons_zero])
                refine wpAnyJ_take (i := 6) (v := ?v6_29) rfl (by kernel_rfl) (by kernel_rfl) (by kernel_rfl) (by kernel_rfl) (fun _ _ _ h => h) (Or.inl (And.intro (by kernel_rfl) ?q6_29)) hS0 ?r6_29; (case q6_29 => (intro w hx; obtain ⟨a6, b6, k6⟩ := hx.c6; have y0 := hx.c0.at_ 3; have y1 := hx.c0.at_ 4; have y2 := hx.c7.at_ 9; have y3 := hx.c7.at_ 10; have y4 := k6.at_ 9; (try dsimp only); (try go_simp); (try with_reducible rfl)))
                (try simp only [Act.put, List.setIfInBounds_toArray, List.set_cons_zero, List.set_cons_succ, List.getElem_toArray, List.getElem_cons_succ, List.getElem_cons_zero])
                refine wpAnyJ_take (i := 7) (v := ?v7_30) rfl (by kernel_rfl) (by kernel_rfl) (by kernel_rfl) (by kernel_rfl) (fun _ _ _ h => h) (Or.inl (And.intro (by kernel_rfl) ?q7_30)) hS0 ?r7_30; (case q7_30 => (intro w hx; obtain ⟨a6, b6, k6⟩ := hx.c6; have y0 := hx.c0.at_ 3; have y1 := hx.c0.at_ 4; have y2 := hx.c7.at_ 9; have y3 := hx.c7.at_ 10; have y4 := k6.at_ 9; (try dsimp only); (try go_simp); (try with_reducible rfl)))
                (try simp only [Act.put, List.setIfInBounds_toArray, List.set_cons_zero, List.set_cons_succ, List.getElem_toArray, List.getElem_cons_succ, List.getElem_cons_zero])
                refine wpAnyJ_take (i := 8) (v := ?v8_31) rfl (by kernel_rfl) (by kernel_rfl) (by kernel_rfl) (by kernel_rfl) (fun _ _ _ h => h) (Or.inl (And.intro (by kernel_rfl) ?q8_31)) hS0 ?r8_31; (case q8_31 => (intro w hx; obtain ⟨a6, b6, k6⟩ := hx.c6; have y0 := hx.c0.at_ 3; have y1 := hx.c0.at_ 4; have y2 := hx.c7.at_ 9; have y3 := hx.c7.at_ 10; have y4 := k6.at_ 9; (try dsimp only); (try go_simp); (try with_reducible rfl)))
                (try simp only [Act.put, List.setIfInBounds_toArray, List.set_cons_zero, List.set_cons_succ, List.getElem_toArray, List.getElem_cons_succ, List.getElem_cons_zero])
                refine wpAnyJ_take (i := 11) (v := ?v11_32) rfl (by kernel_rfl) (by kernel_rfl) (by kernel_rfl) (by kernel_rfl) (fun _ _ _ h => h) (Or.inl (And.intro (by kernel_rfl) ?q11_32)) hS0 ?r11_32; (case q11_32 => (intro w hx; obtain ⟨a6, b6, k6⟩ := hx.c6; have y0 := hx.c0.at_ 3; have y1 := hx.c0.at_ 4; have y2 := hx.c7.at_ 9; have y3 := hx.c7.at_ 10; have y4 := k6.at_ 9; (try dsimp only); (try go_simp); (try with_reducible rfl)))
                (try simp only [Act.put, List.setIfInBounds_toArray, List.set_cons_zero, List.set_cons_succ, List.getElem_toArray, List.getElem_cons_succ, List.getElem_cons_zero])
                refine wpAnyJ_ready (rs := [9]) (by kernel_rfl) (by simp) ?_
                refine (AllReadyJ.cons rfl (fun K hK => ?_) AllReadyJ.nil)
                rw [if_pos (by kernel_rfl)]
                (try simp only [List.getElem_toArray, List.getElem_cons_succ, List.getElem_cons_zero])
                (focus go_simp)
                refine hK.out _ _ ?hs (fun hS0 => ?_)
                case hs => (first | with_reducible exact hS0 | with_reducible exact sq | exact hS0.below (fresh_below _ _) | exact hS0.dest hg67 hg6z _ _)
                clear hK K
                (try simp only [Act.put, List.setIfInBounds_toArray, List.set_cons_zero, List.set_cons_succ, List.getElem_toArray, List.getElem_cons_succ, List.getElem_cons_zero])
                refine wpAnyJ_ready (rs := [10]) (by kernel_rfl) (by simp) ?_
                refine (AllReadyJ.cons rfl (fun K hK => ?_) AllReadyJ.nil)
                (focus (refine RowK.step_app (K := wantK) rfl (.tmp 86) (.tmp 92) rfl _ _ rfl rfl [wn] [wantOf R1 x] (RowK.Own.below (RowK.Own.below o10.out (Below.drew (Below.refl _ _))) (fresh_below _ _)) (RowK.Read.one (Cells.new _ _ _)) (by simp) ?_; intro A2 n2 w11 o9 g9 h9; have sq := hS0.app g9 hg6z w3.out; have hz9 : g6 < _ ∧ g7 < _ := (by obtain ⟨a6, b6, k6⟩ := hS0.c6; exact ⟨Cells.lt k6, Cells.lt hS0.c7⟩); have hown : ∀ g, (Value.slice A2 ([wn] ++ [wantOf R1 x]).length n2).ownBlock = some g → g6 < g := (fun g hg => by rcases h9 with e | e; (rw [e] at hg; exact (w3.out g hg).1); (rw [e] at hg; cases hg; exact hz9.1))))
                (focus (try go_wp2_with fail))
                refine hK.out _ _ ?hs (fun hS0 => ?_)
                case hs => (first | with_reducible exact hS0 | with_reducible exact sq | exact hS0.below (fresh_below _ _) | exact hS0.dest hg67 hg6z _ _)
                clear hK K
                (try simp only [Act.put, List.setIfInBounds_toArray, List.set_cons_zero, List.set_cons_succ, List.getElem_toArray, List.getElem_cons_succ, List.getElem_cons_zero])
                refine wpAnyJ_ready (rs := [12]) (by kernel_rfl) (by simp) ?_
                refine (AllReadyJ.cons rfl (fun K hK => ?_) AllReadyJ.nil)
                (focus (rw [if_pos (by kernel_rfl)]; obtain ⟨a6, b6, k6⟩ := hS0.c6; have y5 := k6.at_ 5; have y6 := k6.at_ 6; have f5 := k6.free 5; have f6 := k6.free 6; go_simp))
                (focus (try go_wp2_with fail))
                refine hK.out _ _ ?hs (fun hS0 => ?_)
                case hs => (first | with_reducible exact hS0 | with_reducible exact sq | exact hS0.below (fresh_below _ _) | exact hS0.dest hg67 hg6z _ _)
                clear hK K
                (try simp only [Act.put, List.setIfInBounds_toArray, List.set_cons_zero, List.set_cons_succ, List.getElem_toArray, List.getElem_cons_succ, List.getElem_cons_zero])
                refine wpAnyJ_take (i := 13) (v := ?v13_33) rfl (by kernel_rfl) (by kernel_rfl) (by kernel_rfl) (by kernel_rfl) (fun _ _ _ h => h) (Or.inl (And.intro (by kernel_rfl) ?q13_33)) hS0 ?r13_33; (case q13_33 => (intro w hx; obtain ⟨a6, b6, k6⟩ := hx.c6; have y0 := hx.c0.at_ 3; have y1 := hx.c0.at_ 4; have y2 := hx.c7.at_ 9; have y3 := hx.c7.at_ 10; have y4 := k6.at_ 9; (try dsimp only); (try go_simp); (try with_reducible rfl)))
                (try simp only [Act.put, List.setIfInBounds_toArray, List.set_cons_zero, List.set_cons_succ, List.getElem_toArray, List.getElem_cons_succ, List.getElem_cons_zero])
                refine wpAnyJ_ready (rs := [14]) (by kernel_rfl) (by simp) ?_
                refine (AllReadyJ.last rfl (by kernel_rfl) (fun K hK => ?_) AllReadyJ.nil)
                (focus (rw [if_pos (by kernel_rfl)]; obtain ⟨a6, b6, k6⟩ := hS0.c6; have y9 := k6.at_ 9; have f9 := k6.free 9; go_simp))
                (focus (try go_wp2_with fail))
                refine hK.out _ _ ?_
                clear hK K
                (try simp only [Act.put, List.setIfInBounds_toArray, List.set_cons_zero, List.set_cons_succ, List.getElem_toArray, List.getElem_cons_succ, List.getElem_cons_zero])
                refine wpAnyJ_done (by kernel_rfl) ?_ _
              simp only [List.cons_append, List.nil_append, List.length_cons, List.length_nil, Nat.zero_add] at o9 hown
              obtain ⟨a6, b6, k6⟩ := sq.c6
              have d6c : Cells (((w11.setCell ⟨g6, 5, none⟩ (.int .u32 R1.ia)).setCell ⟨g6, 6, none⟩ (.int .u16 R1.ip)).setCell ⟨g6, 9, none⟩ (.slice A2 2 n2)) g6 #[.int .u8 x.p, .int .u32 x.si, .int .u16 x.sp, .int .u32 x.di, .int .u16 x.dp, .int .u32 R1.ia, .int .u16 R1.ip, .bool true, .int .i64 0, .slice A2 2 n2] 31 := Cells.like (Cells.set_ (Cells.set_ (Cells.set_ k6 5 (.int .u32 R1.ia)) 6 (.int .u16 R1.ip)) 9 (.slice A2 2 n2)) (by simp)
              have d1c := Cells.other hS0.c1 (by omega : w.heap.size + 1 ≠ g6) 9 (.slice A2 2 n2)
              have hoff : (Value.slice A2 2 n2).ownBlock ≠ some g6 := fun e => by have := hown g6 e; omega
              have oc := Own.set (Own.set (Own.set o9 g6 5 (.int .u32 R1.ia) hoff) g6 6 (.int .u16 R1.ip) hoff) g6 9 (.slice A2 2 n2) hoff
              have lc : Below w.heap.size w (((w11.setCell ⟨g6, 5, none⟩ (.int .u32 R1.ia)).setCell ⟨g6, 6, none⟩ (.int .u16 R1.ip)).setCell ⟨g6, 9, none⟩ (.slice A2 2 n2)) := Below.setCell hS0.b (by show w.heap.size ≤ g6; omega) _
              have hown2 : ∀ g, (Value.slice A2 2 n2).ownBlock = some g → w.heap.size + 1 < g := fun g hg => by have := hown g hg; omega
              clear hS0 s14 sq g9 h9 o9 hown hz9 hoff k6 k10 o10 w3
              generalize (((w11.setCell ⟨g6, 5, none⟩ (.int .u32 R1.ia)).setCell ⟨g6, 6, none⟩ (.int .u16 R1.ip)).setCell ⟨g6, 9, none⟩ (.slice A2 2 n2)) = w12 at *
              have xd6c_0 : w12.cell? ⟨g6, 0, none⟩ = some (.int .u8 x.p) := d6c.at_ 0
              have xd6c_1 : w12.cell? ⟨g6, 1, none⟩ = some (.int .u32 x.si) := d6c.at_ 1
              have xd6c_2 : w12.cell? ⟨g6, 2, none⟩ = some (.int .u16 x.sp) := d6c.at_ 2
              have xd6c_3 : w12.cell? ⟨g6, 3, none⟩ = some (.int .u32 x.di) := d6c.at_ 3
              have xd6c_4 : w12.cell? ⟨g6, 4, none⟩ = some (.int .u16 x.dp) := d6c.at_ 4
              have xd6c_5 : w12.cell? ⟨g6, 5, none⟩ = some (.int .u32 R1.ia) := d6c.at_ 5
              have xd6c_6 : w12.cell? ⟨g6, 6, none⟩ = some (.int .u16 R1.ip) := d6c.at_ 6
              have xd6c_7 : w12.cell? ⟨g6, 7, none⟩ = some (.bool true) := d6c.at_ 7
              have xd6c_8 : w12.cell? ⟨g6, 8, none⟩ = some (.int .i64 0) := d6c.at_ 8
              have xd6c_9 : w12.cell? ⟨g6, 9, none⟩ = some (.slice A2 2 n2) := d6c.at_ 9
              have xd1c_0 : w12.cell? ⟨w.heap.size + 1, 0, none⟩ = some (.int .u8 0) := d1c.at_ 0
              have xd1c_1 : w12.cell? ⟨w.heap.size + 1, 1, none⟩ = some (.int .u32 0) := d1c.at_ 1
              have xd1c_2 : w12.cell? ⟨w.heap.size + 1, 2, none⟩ = some (.int .u16 0) := d1c.at_ 2
              have xd1c_3 : w12.cell? ⟨w.heap.size + 1, 3, none⟩ = some (.int .u32 0) := d1c.at_ 3
              have xd1c_4 : w12.cell? ⟨w.heap.size + 1, 4, none⟩ = some (.int .u16 0) := d1c.at_ 4
              have xd1c_5 : w12.cell? ⟨w.heap.size + 1, 5, none⟩ = some (.int .u32 0) := d1c.at_ 5
              have xd1c_6 : w12.cell? ⟨w.heap.size + 1, 6, none⟩ = some (.int .u16 0) := d1c.at_ 6
              have xd1c_7 : w12.cell? ⟨w.heap.size + 1, 7, none⟩ = some (.bool false) := d1c.at_ 7
              have xd1c_8 : w12.cell? ⟨w.heap.size + 1, 8, none⟩ = some (.int .i64 0) := d1c.at_ 8
              have xd1c_9 : w12.cell? ⟨w.heap.size + 1, 9, none⟩ = some (.slice none 0 0) := d1c.at_ 9
              have yd1c_0 : w12.frozen? ⟨w.heap.size + 1, 0, none⟩ = false := d1c.free 0
              have yd1c_1 : w12.frozen? ⟨w.heap.size + 1, 1, none⟩ = false := d1c.free 1
              have yd1c_2 : w12.frozen? ⟨w.heap.size + 1, 2, none⟩ = false := d1c.free 2
              have yd1c_3 : w12.frozen? ⟨w.heap.size + 1, 3, none⟩ = false := d1c.free 3
              have yd1c_4 : w12.frozen? ⟨w.heap.size + 1, 4, none⟩ = false := d1c.free 4
              have yd1c_5 : w12.frozen? ⟨w.heap.size + 1, 5, none⟩ = false := d1c.free 5
              have yd1c_6 : w12.frozen? ⟨w.heap.size + 1, 6, none⟩ = false := d1c.free 6
              have yd1c_7 : w12.frozen? ⟨w.heap.size + 1, 7, none⟩ = false := d1c.free 7
              have yd1c_8 : w12.frozen? ⟨w.heap.size + 1, 8, none⟩ = false := d1c.free 8
              have yd1c_9 : w12.frozen? ⟨w.heap.size + 1, 9, none⟩ = false := d1c.free 9
              go_upto_region 15 with fail
              go_wp2_with fail
              clear xd6c_0 xd1c_0 yd1c_0 xd6c_1 xd1c_1 yd1c_1 xd6c_2 xd1c_2 yd1c_2 xd6c_3 xd1c_3 yd1c_3 xd6c_4 xd1c_4 yd1c_4 xd6c_5 xd1c_5 yd1c_5 xd6c_6 xd1c_6 yd1c_6 xd6c_7 xd1c_7 yd1c_7 xd6c_8 xd1c_8 yd1c_8 xd6c_9 xd1c_9 yd1c_9
              have q5 : Only (fun i => i = w.heap.size + 1) w12 ((((((((((w12.setCell ⟨w.heap.size + 1, 0, none⟩ (.int .u8 x.p)).setCell ⟨w.heap.size + 1, 1, none⟩ (.int .u32 x.si)).setCell ⟨w.heap.size + 1, 2, none⟩ (.int .u16 x.sp)).setCell ⟨w.heap.size + 1, 3, none⟩ (.int .u32 x.di)).setCell ⟨w.heap.size + 1, 4, none⟩ (.int .u16 x.dp)).setCell ⟨w.heap.size + 1, 5, none⟩ (.int .u32 R1.ia)).setCell ⟨w.heap.size + 1, 6, none⟩ (.int .u16 R1.ip)).setCell ⟨w.heap.size + 1, 7, none⟩ (.bool true)).setCell ⟨w.heap.size + 1, 8, none⟩ (.int .i64 0)).setCell ⟨w.heap.size + 1, 9, none⟩ (.slice A2 2 n2)) := by repeat' (first | with_reducible exact Only.refl _ _ | with_reducible refine Only.setAt ?_ _ _ (Or.inl rfl))
              have hoff : (Value.slice A2 2 n2).ownBlock ≠ some (w.heap.size + 1) := fun e => by have := hown2 _ e; omega
              have o5 := Own.other oc q5 hoff
              clear q5
              have r5 := (Cells.put10 d1c (.int .u8 x.p) (.int .u32 x.si) (.int .u16 x.sp) (.int .u32 x.di) (.int .u16 x.dp) (.int .u32 R1.ia) (.int .u16 R1.ip) (.bool true) (.int .i64 0) (.slice A2 2 n2))
              have b5 := (Below.put10 lc (b := w.heap.size + 1) (by first | exact Nat.le_refl _ | omega) (.int .u8 x.p) (.int .u32 x.si) (.int .u16 x.sp) (.int .u32 x.di) (.int .u16 x.dp) (.int .u32 R1.ia) (.int .u16 R1.ip) (.bool true) (.int .i64 0) (.slice A2 2 n2))
              have HR5 := hide r5; have HB5 := hide b5
              clear r5 b5 d1c
              generalize ((((((((((w12.setCell ⟨w.heap.size + 1, 0, none⟩ (.int .u8 x.p)).setCell ⟨w.heap.size + 1, 1, none⟩ (.int .u32 x.si)).setCell ⟨w.heap.size + 1, 2, none⟩ (.int .u16 x.sp)).setCell ⟨w.heap.size + 1, 3, none⟩ (.int .u32 x.di)).setCell ⟨w.heap.size + 1, 4, none⟩ (.int .u16 x.dp)).setCell ⟨w.heap.size + 1, 5, none⟩ (.int .u32 R1.ia)).setCell ⟨w.heap.size + 1, 6, none⟩ (.int .u16 R1.ip)).setCell ⟨w.heap.size + 1, 7, none⟩ (.bool true)).setCell ⟨w.heap.size + 1, 8, none⟩ (.int .i64 0)).setCell ⟨w.heap.size + 1, 9, none⟩ (.slice A2 2 n2)) = W5 at *
              have r5 := HR5.out; have b5 := HB5.out
              clear HR5 HB5
              have xr5_0 : W5.cell? ⟨w.heap.size + 1, 0, none⟩ = some (.int .u8 x.p) := r5.at_ 0
              have xr5_1 : W5.cell? ⟨w.heap.size + 1, 1, none⟩ = some (.int .u32 x.si) := r5.at_ 1
              have xr5_2 : W5.cell? ⟨w.heap.size + 1, 2, none⟩ = some (.int .u16 x.sp) := r5.at_ 2
              have xr5_3 : W5.cell? ⟨w.heap.size + 1, 3, none⟩ = some (.int .u32 x.di) := r5.at_ 3
              have xr5_4 : W5.cell? ⟨w.heap.size + 1, 4, none⟩ = some (.int .u16 x.dp) := r5.at_ 4
              have xr5_5 : W5.cell? ⟨w.heap.size + 1, 5, none⟩ = some (.int .u32 R1.ia) := r5.at_ 5
              have xr5_6 : W5.cell? ⟨w.heap.size + 1, 6, none⟩ = some (.int .u16 R1.ip) := r5.at_ 6
              have xr5_7 : W5.cell? ⟨w.heap.size + 1, 7, none⟩ = some (.bool true) := r5.at_ 7
              have xr5_8 : W5.cell? ⟨w.heap.size + 1, 8, none⟩ = some (.int .i64 0) := r5.at_ 8
              have xr5_9 : W5.cell? ⟨w.heap.size + 1, 9, none⟩ = some (.slice A2 2 n2) := r5.at_ 9
              (try simp only [Exit.inBlock, Exit.then]); refine bodyPost_ret (by simp [results, Tryd.results23, go_sem, *]; try rfl) rfl ?_
              (try simp only [Bool.true_and, Bool.false_and, Bool.and_true, Bool.and_false, Bool.false_or, Bool.or_false, Bool.true_or, Bool.or_true, Bool.not_true, Bool.not_false, Bool.false_eq_true, if_false, if_true, List.append_nil, List.nil_append])
              exact ⟨_, rfl, o5, (fun g e => Nat.le_of_lt (Nat.lt_of_succ_lt (hown2 g e))), b5⟩
          · simp only [Bool.true_and, Bool.or_true, Bool.and_true, Bool.false_or, if_true]
            go_wp2_with (first | (go_at_call 37; (with_reducible refine (C2.out _ (bstep L0.out (by assumption))).mono ?_); rintro e2 w2 ⟨rfl, b2⟩; have b2' := bstep (by assumption : Below w7.heap.size w7 _) b2; clear b2))
            have d1 := Cells.below b2' D1.out
            have l2 := bstep L0.out b2'
            clear qd0_0 qd0_1 qd0_2 qd0_3 qd0_4 qd1_0 qd1_1 qd1_2 qd1_3 qd1_4 qd1_5 qd1_6 qd1_7 qd1_8 qd1_9 qd6_0 qd6_1 qd6_2 qd6_3 qd6_4 qd6_5 qd6_6 qd6_7 qd6_8 qd6_9 qd7_0 qd7_1 qd7_2 qd7_3 qd7_4 qd7_5 qd7_6 qd7_7 qd7_8 qd7_9 qd7_10 fz fz6 bA bb
            have r5 := (Cells.put10 d1 (.int .u8 0) (.int .u32 0) (.int .u16 0) (.int .u32 0) (.int .u16 0) (.int .u32 0) (.int .u16 0) (.bool false) (.int .i64 0) (.slice none 0 0))
            have b5 := (Below.put10 l2 (b := w.heap.size + 1) (by first | exact Nat.le_refl _ | omega) (.int .u8 0) (.int .u32 0) (.int .u16 0) (.int .u32 0) (.int .u16 0) (.int .u32 0) (.int .u16 0) (.bool false) (.int .i64 0) (.slice none 0 0))
            have HR5 := hide r5; have HB5 := hide b5
            clear r5 b5 d1
            generalize ((((((((((w2.setCell ⟨w.heap.size + 1, 0, none⟩ (.int .u8 0)).setCell ⟨w.heap.size + 1, 1, none⟩ (.int .u32 0)).setCell ⟨w.heap.size + 1, 2, none⟩ (.int .u16 0)).setCell ⟨w.heap.size + 1, 3, none⟩ (.int .u32 0)).setCell ⟨w.heap.size + 1, 4, none⟩ (.int .u16 0)).setCell ⟨w.heap.size + 1, 5, none⟩ (.int .u32 0)).setCell ⟨w.heap.size + 1, 6, none⟩ (.int .u16 0)).setCell ⟨w.heap.size + 1, 7, none⟩ (.bool false)).setCell ⟨w.heap.size + 1, 8, none⟩ (.int .i64 0)).setCell ⟨w.heap.size + 1, 9, none⟩ (.slice none 0 0)) = W5 at *
            have r5 := HR5.out; have b5 := HB5.out
            clear HR5 HB5
            have xr5_0 : W5.cell? ⟨w.heap.size + 1, 0, none⟩ = some (.int .u8 0) := r5.at_ 0
            have xr5_1 : W5.cell? ⟨w.heap.size + 1, 1, none⟩ = some (.int .u32 0) := r5.at_ 1
            have xr5_2 : W5.cell? ⟨w.heap.size + 1, 2, none⟩ = some (.int .u16 0) := r5.at_ 2
            have xr5_3 : W5.cell? ⟨w.heap.size + 1, 3, none⟩ = some (.int .u32 0) := r5.at_ 3
            have xr5_4 : W5.cell? ⟨w.heap.size + 1, 4, none⟩ = some (.int .u16 0) := r5.at_ 4
            have xr5_5 : W5.cell? ⟨w.heap.size + 1, 5, none⟩ = some (.int .u32 0) := r5.at_ 5
            have xr5_6 : W5.cell? ⟨w.heap.size + 1, 6, none⟩ = some (.int .u16 0) := r5.at_ 6
            have xr5_7 : W5.cell? ⟨w.heap.size + 1, 7, none⟩ = some (.bool false) := r5.at_ 7
            have xr5_8 : W5.cell? ⟨w.heap.size + 1, 8, none⟩ = some (.int .i64 0) := r5.at_ 8
            have xr5_9 : W5.cell? ⟨w.heap.size + 1, 9, none⟩ = some (.slice none 0 0) := r5.at_ 9
            (try simp only [Exit.inBlock, Exit.then]); refine bodyPost_ret (by simp [results, Tryd.results23, go_sem, *]; try rfl) rfl ?_
            exact ⟨_, rfl, RowK.Own.nil _, (fun g e => by cases e), b5⟩
    · simp only [Bool.true_and, Bool.true_or, if_true]
      go_wp2_with (first | (go_at_call 37; (with_reducible refine (C2.out _ (bstep L0.out (by assumption))).mono ?_); rintro e2 w2 ⟨rfl, b2⟩; have b2' := bstep (by assumption : Below w7.heap.size w7 _) b2; clear b2))
      have d1 := Cells.below b2' D1.out
      have l2 := bstep L0.out b2'
      clear qd0_0 qd0_1 qd0_2 qd0_3 qd0_4 qd1_0 qd1_1 qd1_2 qd1_3 qd1_4 qd1_5 qd1_6 qd1_7 qd1_8 qd1_9 qd6_0 qd6_1 qd6_2 qd6_3 qd6_4 qd6_5 qd6_6 qd6_7 qd6_8 qd6_9 qd7_0 qd7_1 qd7_2 qd7_3 qd7_4 qd7_5 qd7_6 qd7_7 qd7_8 qd7_9 qd7_10 fz fz6 bA bb
      have r5 := (Cells.put10 d1 (.int .u8 0) (.int .u32 0) (.int .u16 0) (.int .u32 0) (.int .u16 0) (.int .u32 0) (.int .u16 0) (.bool false) (.int .i64 0) (.slice none 0 0))
      have b5 := (Below.put10 l2 (b := w.heap.size + 1) (by first | exact Nat.le_refl _ | omega) (.int .u8 0) (.int .u32 0) (.int .u16 0) (.int .u32 0) (.int .u16 0) (.int .u32 0) (.int .u16 0) (.bool false) (.int .i64 0) (.slice none 0 0))
      have HR5 := hide r5; have HB5 := hide b5
      clear r5 b5 d1
      generalize ((((((((((w2.setCell ⟨w.heap.size + 1, 0, none⟩ (.int .u8 0)).setCell ⟨w.heap.size + 1, 1, none⟩ (.int .u32 0)).setCell ⟨w.heap.size + 1, 2, none⟩ (.int .u16 0)).setCell ⟨w.heap.size + 1, 3, none⟩ (.int .u32 0)).setCell ⟨w.heap.size + 1, 4, none⟩ (.int .u16 0)).setCell ⟨w.heap.size + 1, 5, none⟩ (.int .u32 0)).setCell ⟨w.heap.size + 1, 6, none⟩ (.int .u16 0)).setCell ⟨w.heap.size + 1, 7, none⟩ (.bool false)).setCell ⟨w.heap.size + 1, 8, none⟩ (.int .i64 0)).setCell ⟨w.heap.size + 1, 9, none⟩ (.slice none 0 0)) = W5 at *
      have r5 := HR5.out; have b5 := HB5.out
      clear HR5 HB5
      have xr5_0 : W5.cell? ⟨w.heap.size + 1, 0, none⟩ = some (.int .u8 0) := r5.at_ 0
      have xr5_1 : W5.cell? ⟨w.heap.size + 1, 1, none⟩ = some (.int .u32 0) := r5.at_ 1
      have xr5_2 : W5.cell? ⟨w.heap.size + 1, 2, none⟩ = some (.int .u16 0) := r5.at_ 2
      have xr5_3 : W5.cell? ⟨w.heap.size + 1, 3, none⟩ = some (.int .u32 0) := r5.at_ 3
      have xr5_4 : W5.cell? ⟨w.heap.size + 1, 4, none⟩ = some (.int .u16 0) := r5.at_ 4
      have xr5_5 : W5.cell? ⟨w.heap.size + 1, 5, none⟩ = some (.int .u32 0) := r5.at_ 5
      have xr5_6 : W5.cell? ⟨w.heap.size + 1, 6, none⟩ = some (.int .u16 0) := r5.at_ 6
      have xr5_7 : W5.cell? ⟨w.heap.size + 1, 7, none⟩ = some (.bool false) := r5.at_ 7
      have xr5_8 : W5.cell? ⟨w.heap.size + 1, 8, none⟩ = some (.int .i64 0) := r5.at_ 8
      have xr5_9 : W5.cell? ⟨w.heap.size + 1, 9, none⟩ = some (.slice none 0 0) := r5.at_ 9
      (try simp only [Exit.inBlock, Exit.then]); refine bodyPost_ret (by simp [results, Tryd.results23, go_sem, *]; try rfl) rfl ?_
      exact ⟨_, rfl, RowK.Own.nil _, (fun g e => by cases e), b5⟩
end Go.Proofs.YtilfcikhipadpaaDoor
end

section
/- binds: Fits. -/
set_option linter.unusedVariables false
set_option linter.unusedSimpArgs false
namespace Go.Proofs.YtilfcikhipadpaaDoor
open Go.RowKit Go.Lib
attribute [local go_sem] Oper.semAt_some

/-- is a want met? -/
def fitsV (q : Wnt) (a p : Int) : Bool := if q.fx = true then (a == q.oi && p == q.op) else (a == q.a && (decide (q.f ≤ p) && decide (p ≤ q.t)))
set_option maxHeartbeats 2000000 in
theorem b_Fits (w : World) (q : Wnt) (a p : Int) : Calls Tryd.prog 6 #[.agg #[.bool q.fx, .int .u32 q.ii, .int .u16 q.ip, .int .u32 q.oi, .int .u16 q.op, .int .u32 q.a, .int .u16 q.f, .int .u16 q.t], .agg #[.int .u32 a, .int .u16 p]] w (Ret (.bool (fitsV q a p)) w) := by
  unfold fitsV
  obtain ⟨fx, ii, ipp, oi, opp, qa, qf, qt⟩ := q
  simp only
  obtain ⟨e1, h1⟩ : ∃ e1, (a == oi) = e1 := ⟨_, rfl⟩
  obtain ⟨e2, h2⟩ : ∃ e2, (p == opp) = e2 := ⟨_, rfl⟩
  obtain ⟨e3, h3⟩ : ∃ e3, (a == qa) = e3 := ⟨_, rfl⟩
  obtain ⟨e4, h4⟩ : ∃ e4, decide (qf ≤ p) = e4 := ⟨_, rfl⟩
  obtain ⟨e5, h5⟩ : ∃ e5, decide (p ≤ qt) = e5 := ⟨_, rfl⟩
  rw [h1, h2, h3, h4, h5]
  cases fx
  · simp only [Bool.false_eq_true, if_false]
    clear h1 h2
    cases e3
    · clear h4 h5
      go_enter Tryd.func6, Tryd.ntmps6
      have d0 := Cells.new w #[.bool false, .int .u32 ii, .int .u16 ipp, .int .u32 oi, .int .u16 opp, .int .u32 qa, .int .u16 qf, .int .u16 qt] 40
      replace d0 := Cells.below (fresh_below (w.alloc (.cells #[.bool false, .int .u32 ii, .int .u16 ipp, .int .u32 oi, .int .u16 opp, .int .u32 qa, .int .u16 qf, .int .u16 qt] 40)) (.cells #[.int .u32 a, .int .u16 p] 26)) d0
      have d1 := Cells.new (w.alloc (.cells #[.bool false, .int .u32 ii, .int .u16 ipp, .int .u32 oi, .int .u16 opp, .int .u32 qa, .int .u16 qf, .int .u16 qt] 40)) #[.int .u32 a, .int .u16 p] 26
      have l0 : Below w.heap.size w ((w.alloc (.cells #[.bool false, .int .u32 ii, .int .u16 ipp, .int .u32 oi, .int .u16 opp, .int .u32 qa, .int .u16 qf, .int .u16 qt] 40)).alloc (.cells #[.int .u32 a, .int .u16 p] 26)) := (bstep (fresh_below _ _) (fresh_below _ _))
      simp only [World.size_alloc] at d1
      have L0 := hide l0; have D0 := hide d0; have D1 := hide d1
      clear l0 d0 d1
      go_upto_region 1 with fail
      have l0 := L0.out; have d0 := D0.out; have d1 := D1.out
      clear L0 D0 D1
      generalize ((w.alloc (.cells #[.bool false, .int .u32 ii, .int .u16 ipp, .int .u32 oi, .int .u16 opp, .int .u32 qa, .int .u16 qf, .int .u16 qt] 40)).alloc (.cells #[.int .u32 a, .int .u16 p] 26)) = w1 at *
      have qd0_0 : ∀ W', Below w1.heap.size w1 W' → World.cell? W' ⟨w.heap.size, 0, none⟩ = some (.bool false) := fun W' h => Cells.at_ (Cells.below h d0) 0
      have qd0_1 : ∀ W', Below w1.heap.size w1 W' → World.cell? W' ⟨w.heap.size, 1, none⟩ = some (.int .u32 ii) := fun W' h => Cells.at_ (Cells.below h d0) 1
      have qd0_2 : ∀ W', Below w1.heap.size w1 W' → World.cell? W' ⟨w.heap.size, 2, none⟩ = some (.int .u16 ipp) := fun W' h => Cells.at_ (Cells.below h d0) 2
      have qd0_3 : ∀ W', Below w1.heap.size w1 W' → World.cell? W' ⟨w.heap.size, 3, none⟩ = some (.int .u32 oi) := fun W' h => Cells.at_ (Cells.below h d0) 3
      have qd0_4 : ∀ W', Below w1.heap.size w1 W' → World.cell? W' ⟨w.heap.size, 4, none⟩ = some (.int .u16 opp) := fun W' h => Cells.at_ (Cells.below h d0) 4
      have qd0_5 : ∀ W', Below w1.heap.size w1 W' → World.cell? W' ⟨w.heap.size, 5, none⟩ = some (.int .u32 qa) := fun W' h => Cells.at_ (Cells.below h d0) 5
      have qd0_6 : ∀ W', Below w1.heap.size w1 W' → World.cell? W' ⟨w.heap.size, 6, none⟩ = some (.int .u16 qf) := fun W' h => Cells.at_ (Cells.below h d0) 6
      have qd0_7 : ∀ W', Below w1.heap.size w1 W' → World.cell? W' ⟨w.heap.size, 7, none⟩ = some (.int .u16 qt) := fun W' h => Cells.at_ (Cells.below h d0) 7
      have qd1_0 : ∀ W', Below w1.heap.size w1 W' → World.cell? W' ⟨w.heap.size + 1, 0, none⟩ = some (.int .u32 a) := fun W' h => Cells.at_ (Cells.below h d1) 0
      have qd1_1 : ∀ W', Below w1.heap.size w1 W' → World.cell? W' ⟨w.heap.size + 1, 1, none⟩ = some (.int .u16 p) := fun W' h => Cells.at_ (Cells.below h d1) 1
      have bb : Below w1.heap.size w1 w1 := Below.refl _ _
      have L0 := hide l0; have D0 := hide d0; have D1 := hide d1
      clear l0 d0 d1
      go_wp2_with fail
      go_ret
      exact ⟨by first | rfl | simp, L0.out⟩
    · cases e4
      · clear h5
        go_enter Tryd.func6, Tryd.ntmps6
        have d0 := Cells.new w #[.bool false, .int .u32 ii, .int .u16 ipp, .int .u32 oi, .int .u16 opp, .int .u32 qa, .int .u16 qf, .int .u16 qt] 40
        replace d0 := Cells.below (fresh_below (w.alloc (.cells #[.bool false, .int .u32 ii, .int .u16 ipp, .int .u32 oi, .int .u16 opp, .int .u32 qa, .int .u16 qf, .int .u16 qt] 40)) (.cells #[.int .u32 a, .int .u16 p] 26)) d0
        have d1 := Cells.new (w.alloc (.cells #[.bool false, .int .u32 ii, .int .u16 ipp, .int .u32 oi, .int .u16 opp, .int .u32 qa, .int .u16 qf, .int .u16 qt] 40)) #[.int .u32 a, .int .u16 p] 26
        have l0 : Below w.heap.size w ((w.alloc (.cells #[.bool false, .int .u32 ii, .int .u16 ipp, .int .u32 oi, .int .u16 opp, .int .u32 qa, .int .u16 qf, .int .u16 qt] 40)).alloc (.cells #[.int .u32 a, .int .u16 p] 26)) := (bstep (fresh_below _ _) (fresh_below _ _))
        simp only [World.size_alloc] at d1
        have L0 := hide l0; have D0 := hide d0; have D1 := hide d1
        clear l0 d0 d1
        go_upto_region 1 with fail
        have l0 := L0.out; have d0 := D0.out; have d1 := D1.out
        clear L0 D0 D1
        generalize ((w.alloc (.cells #[.bool false, .int .u32 ii, .int .u16 ipp, .int .u32 oi, .int .u16 opp, .int .u32 qa, .int .u16 qf, .int .u16 qt] 40)).alloc (.cells #[.int .u32 a, .int .u16 p] 26)) = w1 at *
        have qd0_0 : ∀ W', Below w1.heap.size w1 W' → World.cell? W' ⟨w.heap.size, 0, none⟩ = some (.bool false) := fun W' h => Cells.at_ (Cells.below h d0) 0
        have qd0_1 : ∀ W', Below w1.heap.size w1 W' → World.cell? W' ⟨w.heap.size, 1, none⟩ = some (.int .u32 ii) := fun W' h => Cells.at_ (Cells.below h d0) 1
        have qd0_2 : ∀ W', Below w1.heap.size w1 W' → World.cell? W' ⟨w.heap.size, 2, none⟩ = some (.int .u16 ipp) := fun W' h => Cells.at_ (Cells.below h d0) 2
        have qd0_3 : ∀ W', Below w1.heap.size w1 W' → World.cell? W' ⟨w.heap.size, 3, none⟩ = some (.int .u32 oi) := fun W' h => Cells.at_ (Cells.below h d0) 3
        have qd0_4 : ∀ W', Below w1.heap.size w1 W' → World.cell? W' ⟨w.heap.size, 4, none⟩ = some (.int .u16 opp) := fun W' h => Cells.at_ (Cells.below h d0) 4
        have qd0_5 : ∀ W', Below w1.heap.size w1 W' → World.cell? W' ⟨w.heap.size, 5, none⟩ = some (.int .u32 qa) := fun W' h => Cells.at_ (Cells.below h d0) 5
        have qd0_6 : ∀ W', Below w1.heap.size w1 W' → World.cell? W' ⟨w.heap.size, 6, none⟩ = some (.int .u16 qf) := fun W' h => Cells.at_ (Cells.below h d0) 6
        have qd0_7 : ∀ W', Below w1.heap.size w1 W' → World.cell? W' ⟨w.heap.size, 7, none⟩ = some (.int .u16 qt) := fun W' h => Cells.at_ (Cells.below h d0) 7
        have qd1_0 : ∀ W', Below w1.heap.size w1 W' → World.cell? W' ⟨w.heap.size + 1, 0, none⟩ = some (.int .u32 a) := fun W' h => Cells.at_ (Cells.below h d1) 0
        have qd1_1 : ∀ W', Below w1.heap.size w1 W' → World.cell? W' ⟨w.heap.size + 1, 1, none⟩ = some (.int .u16 p) := fun W' h => Cells.at_ (Cells.below h d1) 1
        have bb : Below w1.heap.size w1 w1 := Below.refl _ _
        have L0 := hide l0; have D0 := hide d0; have D1 := hide d1
        clear l0 d0 d1
        go_wp2_with fail
        go_ret
        exact ⟨by first | rfl | simp, L0.out⟩
      · go_enter Tryd.func6, Tryd.ntmps6
        have d0 := Cells.new w #[.bool false, .int .u32 ii, .int .u16 ipp, .int .u32 oi, .int .u16 opp, .int .u32 qa, .int .u16 qf, .int .u16 qt] 40
        replace d0 := Cells.below (fresh_below (w.alloc (.cells #[.bool false, .int .u32 ii, .int .u16 ipp, .int .u32 oi, .int .u16 opp, .int .u32 qa, .int .u16 qf, .int .u16 qt] 40)) (.cells #[.int .u32 a, .int .u16 p] 26)) d0
        have d1 := Cells.new (w.alloc (.cells #[.bool false, .int .u32 ii, .int .u16 ipp, .int .u32 oi, .int .u16 opp, .int .u32 qa, .int .u16 qf, .int .u16 qt] 40)) #[.int .u32 a, .int .u16 p] 26
        have l0 : Below w.heap.size w ((w.alloc (.cells #[.bool false, .int .u32 ii, .int .u16 ipp, .int .u32 oi, .int .u16 opp, .int .u32 qa, .int .u16 qf, .int .u16 qt] 40)).alloc (.cells #[.int .u32 a, .int .u16 p] 26)) := (bstep (fresh_below _ _) (fresh_below _ _))
        simp only [World.size_alloc] at d1
        have L0 := hide l0; have D0 := hide d0; have D1 := hide d1
        clear l0 d0 d1
        go_upto_region 1 with fail
        have l0 := L0.out; have d0 := D0.out; have d1 := D1.out
        clear L0 D0 D1
        generalize ((w.alloc (.cells #[.bool false, .int .u32 ii, .int .u16 ipp, .int .u32 oi, .int .u16 opp, .int .u32 qa, .int .u16 qf, .int .u16 qt] 40)).alloc (.cells #[.int .u32 a, .int .u16 p] 26)) = w1 at *
        have qd0_0 : ∀ W', Below w1.heap.size w1 W' → World.cell? W' ⟨w.heap.size, 0, none⟩ = some (.bool false) := fun W' h => Cells.at_ (Cells.below h d0) 0
        have qd0_1 : ∀ W', Below w1.heap.size w1 W' → World.cell? W' ⟨w.heap.size, 1, none⟩ = some (.int .u32 ii) := fun W' h => Cells.at_ (Cells.below h d0) 1
        have qd0_2 : ∀ W', Below w1.heap.size w1 W' → World.cell? W' ⟨w.heap.size, 2, none⟩ = some (.int .u16 ipp) := fun W' h => Cells.at_ (Cells.below h d0) 2
        have qd0_3 : ∀ W', Below w1.heap.size w1 W' → World.cell? W' ⟨w.heap.size, 3, none⟩ = some (.int .u32 oi) := fun W' h => Cells.at_ (Cells.below h d0) 3
        have qd0_4 : ∀ W', Below w1.heap.size w1 W' → World.cell? W' ⟨w.heap.size, 4, none⟩ = some (.int .u16 opp) := fun W' h => Cells.at_ (Cells.below h d0) 4
        have qd0_5 : ∀ W', Below w1.heap.size w1 W' → World.cell? W' ⟨w.heap.size, 5, none⟩ = some (.int .u32 qa) := fun W' h => Cells.at_ (Cells.below h d0) 5
        have qd0_6 : ∀ W', Below w1.heap.size w1 W' → World.cell? W' ⟨w.heap.size, 6, none⟩ = some (.int .u16 qf) := fun W' h => Cells.at_ (Cells.below h d0) 6
        have qd0_7 : ∀ W', Below w1.heap.size w1 W' → World.cell? W' ⟨w.heap.size, 7, none⟩ = some (.int .u16 qt) := fun W' h => Cells.at_ (Cells.below h d0) 7
        have qd1_0 : ∀ W', Below w1.heap.size w1 W' → World.cell? W' ⟨w.heap.size + 1, 0, none⟩ = some (.int .u32 a) := fun W' h => Cells.at_ (Cells.below h d1) 0
        have qd1_1 : ∀ W', Below w1.heap.size w1 W' → World.cell? W' ⟨w.heap.size + 1, 1, none⟩ = some (.int .u16 p) := fun W' h => Cells.at_ (Cells.below h d1) 1
        have bb : Below w1.heap.size w1 w1 := Below.refl _ _
        have L0 := hide l0; have D0 := hide d0; have D1 := hide d1
        clear l0 d0 d1
        go_wp2_with fail
        go_ret
        exact ⟨by first | rfl | simp, L0.out⟩
  · simp only [if_true]
    clear h3 h4 h5
    cases e1 <;> cases e2
    all_goals
      go_enter Tryd.func6, Tryd.ntmps6
      have d0 := Cells.new w #[.bool true, .int .u32 ii, .int .u16 ipp, .int .u32 oi, .int .u16 opp, .int .u32 qa, .int .u16 qf, .int .u16 qt] 40
      replace d0 := Cells.below (fresh_below (w.alloc (.cells #[.bool true, .int .u32 ii, .int .u16 ipp, .int .u32 oi, .int .u16 opp, .int .u32 qa, .int .u16 qf, .int .u16 qt] 40)) (.cells #[.int .u32 a, .int .u16 p] 26)) d0
      have d1 := Cells.new (w.alloc (.cells #[.bool true, .int .u32 ii, .int .u16 ipp, .int .u32 oi, .int .u16 opp, .int .u32 qa, .int .u16 qf, .int .u16 qt] 40)) #[.int .u32 a, .int .u16 p] 26
      have l0 : Below w.heap.size w ((w.alloc (.cells #[.bool true, .int .u32 ii, .int .u16 ipp, .int .u32 oi, .int .u16 opp, .int .u32 qa, .int .u16 qf, .int .u16 qt] 40)).alloc (.cells #[.int .u32 a, .int .u16 p] 26)) := (bstep (fresh_below _ _) (fresh_below _ _))
      simp only [World.size_alloc] at d1
      have L0 := hide l0; have D0 := hide d0; have D1 := hide d1
      clear l0 d0 d1
      go_upto_region 1 with fail
      have l0 := L0.out; have d0 := D0.out; have d1 := D1.out
      clear L0 D0 D1
      generalize ((w.alloc (.cells #[.bool true, .int .u32 ii, .int .u16 ipp, .int .u32 oi, .int .u16 opp, .int .u32 qa, .int .u16 qf, .int .u16 qt] 40)).alloc (.cells #[.int .u32 a, .int .u16 p] 26)) = w1 at *
      have qd0_0 : ∀ W', Below w1.heap.size w1 W' → World.cell? W' ⟨w.heap.size, 0, none⟩ = some (.bool true) := fun W' h => Cells.at_ (Cells.below h d0) 0
      have qd0_1 : ∀ W', Below w1.heap.size w1 W' → World.cell? W' ⟨w.heap.size, 1, none⟩ = some (.int .u32 ii) := fun W' h => Cells.at_ (Cells.below h d0) 1
      have qd0_2 : ∀ W', Below w1.heap.size w1 W' → World.cell? W' ⟨w.heap.size, 2, none⟩ = some (.int .u16 ipp) := fun W' h => Cells.at_ (Cells.below h d0) 2
      have qd0_3 : ∀ W', Below w1.heap.size w1 W' → World.cell? W' ⟨w.heap.size, 3, none⟩ = some (.int .u32 oi) := fun W' h => Cells.at_ (Cells.below h d0) 3
      have qd0_4 : ∀ W', Below w1.heap.size w1 W' → World.cell? W' ⟨w.heap.size, 4, none⟩ = some (.int .u16 opp) := fun W' h => Cells.at_ (Cells.below h d0) 4
      have qd0_5 : ∀ W', Below w1.heap.size w1 W' → World.cell? W' ⟨w.heap.size, 5, none⟩ = some (.int .u32 qa) := fun W' h => Cells.at_ (Cells.below h d0) 5
      have qd0_6 : ∀ W', Below w1.heap.size w1 W' → World.cell? W' ⟨w.heap.size, 6, none⟩ = some (.int .u16 qf) := fun W' h => Cells.at_ (Cells.below h d0) 6
      have qd0_7 : ∀ W', Below w1.heap.size w1 W' → World.cell? W' ⟨w.heap.size, 7, none⟩ = some (.int .u16 qt) := fun W' h => Cells.at_ (Cells.below h d0) 7
      have qd1_0 : ∀ W', Below w1.heap.size w1 W' → World.cell? W' ⟨w.heap.size + 1, 0, none⟩ = some (.int .u32 a) := fun W' h => Cells.at_ (Cells.below h d1) 0
      have qd1_1 : ∀ W', Below w1.heap.size w1 W' → World.cell? W' ⟨w.heap.size + 1, 1, none⟩ = some (.int .u16 p) := fun W' h => Cells.at_ (Cells.below h d1) 1
      have bb : Below w1.heap.size w1 w1 := Below.refl _ _
      have L0 := hide l0; have D0 := hide d0; have D1 := hide d1
      clear l0 d0 d1
      go_wp2_with fail
      go_ret
      exact ⟨by first | rfl | simp, L0.out⟩
end Go.Proofs.YtilfcikhipadpaaDoor
end
