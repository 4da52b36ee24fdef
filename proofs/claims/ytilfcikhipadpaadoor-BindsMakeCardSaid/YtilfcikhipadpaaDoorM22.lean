/- Several texts of this claim, one behind the other. -/
import Derived.Test.YtilfcikhipadpaaDoorM20
import Derived.Test.YtilfcikhipadpaaDoorM21

section
/- binds: the document's plan, and its entry, of the program's. -/
set_option linter.unusedVariables false
set_option linter.unusedSimpArgs false
namespace Go.Proofs.YtilfcikhipadpaaDoor
open Go.RowKit Go.Lib
attribute [local go_sem] Oper.semAt_some envL lookV

/-- what is left: a struct with a slice of one's own in it -/
def Outs {α : Type} (K : RowK α) (w : World) (f : Value → Value) (l : List α) (e : Ending) (w' : World) : Prop := ∃ V, e = .returned (f V) ∧ K.Own w' V l ∧ (∀ g, V.ownBlock = some g → w.heap.size ≤ g) ∧ Below w.heap.size w w'
/-- a slice of one's own, whose block is above g, in a struct in block g; all else since wq -/
structure Grow {α : Type} (K : RowK α) (wq : World) (g : Nat) (f : Value → Array Value) (T : TypeId) (l : List α) (V : Value) (W : World) : Prop where
  c : Cells W g (f V) T
  own : K.Own W V l
  up : ∀ k, V.ownBlock = some k → g < k
  b : Below g wq W
theorem Grow.start {α : Type} {K : RowK α} {wq : World} {g : Nat} {f : Value → Array Value} {T : TypeId} (h : Cells wq g (f (.slice none 0 0)) T) : Grow K wq g f T [] (.slice none 0 0) wq :=
  ⟨h, RowK.Own.nil _, (fun k e => by cases e), Below.refl _ _⟩
/-- behind an append and the store of the slice -/
theorem Grow.step {α : Type} {K : RowK α} {wq W W' : World} {g i : Nat} {f : Value → Array Value} {T : TypeId} {l l' : List α} {V V' : Value} (h : Grow K wq g f T l V W) (hf : ∀ u v, (f u).setIfInBounds i v = f v)
    (k : Only (fun j => V.ownBlock = some j) W W') (o : K.Own W' V' l') (hb : V'.ownBlock = V.ownBlock ∨ ∀ j, V'.ownBlock = some j → W.heap.size ≤ j) : Grow K wq g f T l' V' (W'.setCell ⟨g, i, none⟩ V') := by
  have hg : g < W.heap.size := Cells.lt h.c
  have hup : ∀ j, V'.ownBlock = some j → g < j := fun j e => by
    rcases hb with q | q
    · exact h.up j (by rw [← q]; exact e)
    · exact Nat.lt_of_lt_of_le hg (q j e)
  have hc : Cells W' g (f V) T := Cells.only h.c k (fun e => Nat.lt_irrefl _ (h.up _ e))
  refine ⟨?_, o.same fun j e => Below.heap_setCell W' ⟨g, i, none⟩ V' j (fun e' => ?_), hup, ?_⟩
  · have := Cells.set_ hc i V'
    rwa [hf] at this
  · have := hup j e; rw [e'] at this; exact Nat.lt_irrefl _ this
  · refine Below.setCell (p := ⟨g, i, none⟩) ?_ (Nat.le_refl _) _
    have hs := h.b.size
    exact h.b.trans (k.below (fun j e => Nat.le_of_lt (h.up j e)) (Nat.le_of_lt hg))
set_option maxHeartbeats 8000000 in
set_option maxRecDepth 100000 in
theorem l_plan (w : World) (q : Pln) (A : Option Addr) (n c : Nat) (hn : n = q.ws.length) (hA : wantK.Has w A q.ws) (hn6 : n ≤ 1000) (hc : n ≤ c) :
    Calls Tryd.prog 5 #[.agg #[.int .u8 q.x.p, .int .u32 q.x.si, .int .u16 q.x.sp, .int .u32 q.x.di, .int .u16 q.x.dp, .int .u32 q.di, .int .u16 q.dp, .bool q.src, .int .i64 q.st, .slice A n c]] w (Outs dwantK w (fun v => .agg #[.int .u8 q.x.p, .int .u32 q.x.si, .int .u16 q.x.sp, .int .u32 q.x.di, .int .u16 q.x.dp, .int .u32 q.di, .int .u16 q.dp, .bool q.src, .int .i64 q.st, v]) q.ws) := by
  have HN := hide hn; have HA := hide hA
  have hnz : (n : Int) ≤ 1000 := by omega
  clear hn hA hn6
  go_enter Tryd.func5, Tryd.ntmps5
  have d0 := Cells.new w #[.int .u8 q.x.p, .int .u32 q.x.si, .int .u16 q.x.sp, .int .u32 q.x.di, .int .u16 q.x.dp, .int .u32 q.di, .int .u16 q.dp, .bool q.src, .int .i64 q.st, .slice A n c] 31
  replace d0 := Cells.below (fresh_below (w.alloc (.cells #[.int .u8 q.x.p, .int .u32 q.x.si, .int .u16 q.x.sp, .int .u32 q.x.di, .int .u16 q.x.dp, .int .u32 q.di, .int .u16 q.dp, .bool q.src, .int .i64 q.st, .slice A n c] 31)) (.cells #[.int .u8 0, .int .u32 0, .int .u16 0, .int .u32 0, .int .u16 0, .int .u32 0, .int .u16 0, .bool false, .int .i64 0, .slice none 0 0] 36)) d0
  have d1 := Cells.new (w.alloc (.cells #[.int .u8 q.x.p, .int .u32 q.x.si, .int .u16 q.x.sp, .int .u32 q.x.di, .int .u16 q.x.dp, .int .u32 q.di, .int .u16 q.dp, .bool q.src, .int .i64 q.st, .slice A n c] 31)) #[.int .u8 0, .int .u32 0, .int .u16 0, .int .u32 0, .int .u16 0, .int .u32 0, .int .u16 0, .bool false, .int .i64 0, .slice none 0 0] 36
  have l0 : Below w.heap.size w ((w.alloc (.cells #[.int .u8 q.x.p, .int .u32 q.x.si, .int .u16 q.x.sp, .int .u32 q.x.di, .int .u16 q.x.dp, .int .u32 q.di, .int .u16 q.dp, .bool q.src, .int .i64 q.st, .slice A n c] 31)).alloc (.cells #[.int .u8 0, .int .u32 0, .int .u16 0, .int .u32 0, .int .u16 0, .int .u32 0, .int .u16 0, .bool false, .int .i64 0, .slice none 0 0] 36)) := (bstep (fresh_below _ _) (fresh_below _ _))
  simp only [World.size_alloc] at d1
  have L0 := hide l0; have D0 := hide d0; have D1 := hide d1
  clear l0 d0 d1
  go_upto_region 1 with fail
  have l0 := L0.out; have d0 := D0.out; have d1 := D1.out
  clear L0 D0 D1
  generalize ((w.alloc (.cells #[.int .u8 q.x.p, .int .u32 q.x.si, .int .u16 q.x.sp, .int .u32 q.x.di, .int .u16 q.x.dp, .int .u32 q.di, .int .u16 q.dp, .bool q.src, .int .i64 q.st, .slice A n c] 31)).alloc (.cells #[.int .u8 0, .int .u32 0, .int .u16 0, .int .u32 0, .int .u16 0, .int .u32 0, .int .u16 0, .bool false, .int .i64 0, .slice none 0 0] 36)) = w1 at *
  have qd0_0 : ∀ W', Below w1.heap.size w1 W' → World.cell? W' ⟨w.heap.size, 0, none⟩ = some (.int .u8 q.x.p) := fun W' h => Cells.at_ (Cells.below h d0) 0
  have qd0_1 : ∀ W', Below w1.heap.size w1 W' → World.cell? W' ⟨w.heap.size, 1, none⟩ = some (.int .u32 q.x.si) := fun W' h => Cells.at_ (Cells.below h d0) 1
  have qd0_2 : ∀ W', Below w1.heap.size w1 W' → World.cell? W' ⟨w.heap.size, 2, none⟩ = some (.int .u16 q.x.sp) := fun W' h => Cells.at_ (Cells.below h d0) 2
  have qd0_3 : ∀ W', Below w1.heap.size w1 W' → World.cell? W' ⟨w.heap.size, 3, none⟩ = some (.int .u32 q.x.di) := fun W' h => Cells.at_ (Cells.below h d0) 3
  have qd0_4 : ∀ W', Below w1.heap.size w1 W' → World.cell? W' ⟨w.heap.size, 4, none⟩ = some (.int .u16 q.x.dp) := fun W' h => Cells.at_ (Cells.below h d0) 4
  have qd0_5 : ∀ W', Below w1.heap.size w1 W' → World.cell? W' ⟨w.heap.size, 5, none⟩ = some (.int .u32 q.di) := fun W' h => Cells.at_ (Cells.below h d0) 5
  have qd0_6 : ∀ W', Below w1.heap.size w1 W' → World.cell? W' ⟨w.heap.size, 6, none⟩ = some (.int .u16 q.dp) := fun W' h => Cells.at_ (Cells.below h d0) 6
  have qd0_7 : ∀ W', Below w1.heap.size w1 W' → World.cell? W' ⟨w.heap.size, 7, none⟩ = some (.bool q.src) := fun W' h => Cells.at_ (Cells.below h d0) 7
  have qd0_8 : ∀ W', Below w1.heap.size w1 W' → World.cell? W' ⟨w.heap.size, 8, none⟩ = some (.int .i64 q.st) := fun W' h => Cells.at_ (Cells.below h d0) 8
  have qd0_9 : ∀ W', Below w1.heap.size w1 W' → World.cell? W' ⟨w.heap.size, 9, none⟩ = some (.slice A n c) := fun W' h => Cells.at_ (Cells.below h d0) 9
  have qd1_0 : ∀ W', Below w1.heap.size w1 W' → World.cell? W' ⟨w.heap.size + 1, 0, none⟩ = some (.int .u8 0) := fun W' h => Cells.at_ (Cells.below h d1) 0
  have qd1_1 : ∀ W', Below w1.heap.size w1 W' → World.cell? W' ⟨w.heap.size + 1, 1, none⟩ = some (.int .u32 0) := fun W' h => Cells.at_ (Cells.below h d1) 1
  have qd1_2 : ∀ W', Below w1.heap.size w1 W' → World.cell? W' ⟨w.heap.size + 1, 2, none⟩ = some (.int .u16 0) := fun W' h => Cells.at_ (Cells.below h d1) 2
  have qd1_3 : ∀ W', Below w1.heap.size w1 W' → World.cell? W' ⟨w.heap.size + 1, 3, none⟩ = some (.int .u32 0) := fun W' h => Cells.at_ (Cells.below h d1) 3
  have qd1_4 : ∀ W', Below w1.heap.size w1 W' → World.cell? W' ⟨w.heap.size + 1, 4, none⟩ = some (.int .u16 0) := fun W' h => Cells.at_ (Cells.below h d1) 4
  have qd1_5 : ∀ W', Below w1.heap.size w1 W' → World.cell? W' ⟨w.heap.size + 1, 5, none⟩ = some (.int .u32 0) := fun W' h => Cells.at_ (Cells.below h d1) 5
  have qd1_6 : ∀ W', Below w1.heap.size w1 W' → World.cell? W' ⟨w.heap.size + 1, 6, none⟩ = some (.int .u16 0) := fun W' h => Cells.at_ (Cells.below h d1) 6
  have qd1_7 : ∀ W', Below w1.heap.size w1 W' → World.cell? W' ⟨w.heap.size + 1, 7, none⟩ = some (.bool false) := fun W' h => Cells.at_ (Cells.below h d1) 7
  have qd1_8 : ∀ W', Below w1.heap.size w1 W' → World.cell? W' ⟨w.heap.size + 1, 8, none⟩ = some (.int .i64 0) := fun W' h => Cells.at_ (Cells.below h d1) 8
  have qd1_9 : ∀ W', Below w1.heap.size w1 W' → World.cell? W' ⟨w.heap.size + 1, 9, none⟩ = some (.slice none 0 0) := fun W' h => Cells.at_ (Cells.below h d1) 9
  have bb : Below w1.heap.size w1 w1 := Below.refl _ _
  have L0 := hide l0; have D0 := hide d0; have D1 := hide d1
  clear l0 d0 d1
  clear bb
  have b0 : Below w1.heap.size w1 w1 := Below.refl _ _
  go_upto_region 2 with fail
  clear b0 qd0_0 qd0_1 qd0_2 qd0_3 qd0_4 qd0_5 qd0_6 qd0_7 qd0_8 qd0_9 qd1_0 qd1_1 qd1_2 qd1_3 qd1_4 qd1_5 qd1_6 qd1_7 qd1_8 qd1_9
  have nn := Cells.new w1 #[.int .u8 q.x.p, .int .u32 q.x.si, .int .u16 q.x.sp, .int .u32 q.x.di, .int .u16 q.x.dp, .int .u32 q.di, .int .u16 q.dp, .bool q.src, .int .i64 q.st, .slice none 0 0] 36
  have bn := fresh_below w1 (.cells #[.int .u8 q.x.p, .int .u32 q.x.si, .int .u16 q.x.sp, .int .u32 q.x.di, .int .u16 q.x.dp, .int .u32 q.di, .int .u16 q.dp, .bool q.src, .int .i64 q.st, .slice none 0 0] 36)
  have hg3 : w.heap.size + 1 < w1.heap.size := Cells.lt D1.out
  replace D0 := hide (Cells.below bn D0.out); replace D1 := hide (Cells.below bn D1.out); replace L0 := hide (bstep L0.out bn)
  clear bn
  generalize w1.heap.size = g3 at nn hg3 ⊢
  generalize (w1.alloc (.cells #[.int .u8 q.x.p, .int .u32 q.x.si, .int .u16 q.x.sp, .int .u32 q.x.di, .int .u16 q.x.dp, .int .u32 q.di, .int .u16 q.dp, .bool q.src, .int .i64 q.st, .slice none 0 0] 36)) = wq at *
  have HG3 := hide hg3; have GR0 := hide (Grow.start (K := dwantK) (f := fun v => #[.int .u8 q.x.p, .int .u32 q.x.si, .int .u16 q.x.sp, .int .u32 q.x.di, .int .u16 q.x.dp, .int .u32 q.di, .int .u16 q.dp, .bool q.src, .int .i64 q.st, v]) nn)
  clear nn hg3
  go_wp2_with fail
  go_loopg [4] n (fun gg s4 wr => ∃ kk : Nat, kk ≤ n ∧ n - kk ≤ gg ∧ s4 = .int .i64 kk ∧ Aside (∃ V, Grow dwantK wq g3 (fun v => #[.int .u8 q.x.p, .int .u32 q.x.si, .int .u16 q.x.sp, .int .u32 q.x.di, .int .u16 q.x.dp, .int .u32 q.di, .int .u16 q.dp, .bool q.src, .int .i64 q.st, v]) 36 (q.ws.take kk) V wr))
  case atStart => exact ⟨0, Nat.zero_le _, by omega, rfl, (show Aside _ from ⟨_, GR0.out⟩)⟩
  case round =>
    clear GR0
    obtain ⟨kk, hkk, hg, rfl, GG⟩ := hrel
    obtain ⟨V, gr⟩ := GG.out
    clear GG
    have hg3 := HG3.out
    have k0 : Cells wr w.heap.size #[.int .u8 q.x.p, .int .u32 q.x.si, .int .u16 q.x.sp, .int .u32 q.x.di, .int .u16 q.x.dp, .int .u32 q.di, .int .u16 q.dp, .bool q.src, .int .i64 q.st, .slice A n c] 31 := (gr.b.block w.heap.size (by omega)).trans D0.out
    have k1 : Cells wr (w.heap.size + 1) #[.int .u8 0, .int .u32 0, .int .u16 0, .int .u32 0, .int .u16 0, .int .u32 0, .int .u16 0, .bool false, .int .i64 0, .slice none 0 0] 36 := (gr.b.block (w.heap.size + 1) (by omega)).trans D1.out
    have lw : Below w.heap.size w wr := L0.out.trans (gr.b.mono (by omega))
    have kg := gr.c
    obtain ⟨F, hF⟩ : ∃ F : Nat → Prop, F = fun j => V.ownBlock = some j := ⟨_, rfl⟩
    have hFg : ∀ j, F j → g3 < j := fun j e => gr.up j (by rw [hF] at e; exact e)
    by_cases hlt : kk < n
    · have hltz : (kk : Int) < (n : Int) := by omega
      have hl : kk < q.ws.length := by have := HN.out; omega
      obtain ⟨g, o, rfl, hg0, hrow0⟩ := HA.out.at_ hl
      obtain ⟨r, hr⟩ : ∃ r, r = q.ws[kk] := ⟨_, rfl⟩
      rw [← hr] at hrow0
      have hgF : ¬ F g := fun e => by have := hFg g e; omega
      have hrow : ∀ W', Only F wr W' → ∀ j u, (wantK.cells r).toList[j]? = some u → W'.cell? ⟨g, o + kk * 8 + j, none⟩ = some u := fun W' hW j u hu => (World.cell?_of_block (hW.block g (Nat.lt_of_lt_of_le hg0 lw.size) hgF)).trans (hrow0 j u hu wr lw)
      have q0 : ∀ W', Only F wr W' → World.cell? W' ⟨w.heap.size, 9, none⟩ = some (.slice (some ⟨g, o, none⟩) n c) := fun W' hW => (Cells.only k0 hW (fun e => by have := hFg _ e; omega)).at_ 9
      have q3 : ∀ W', Only F wr W' → World.cell? W' ⟨g3, 9, none⟩ = some V := fun W' hW => (Cells.only kg hW (fun e => by have := hFg _ e; omega)).at_ 9
      have f3 : ∀ W', Only F wr W' → World.frozen? W' ⟨g3, 9, none⟩ = false := fun W' hW => (Cells.only kg hW (fun e => by have := hFg _ e; omega)).free 9
      have z0 : ∀ W', Only F wr W' → World.cell? W' ⟨g, o + kk * 8, none⟩ = some (.bool r.fx) := fun W' hW => hrow W' hW 0 _ rfl
      have z1 : ∀ W', Only F wr W' → World.cell? W' ⟨g, o + kk * 8 + 1, none⟩ = some (.int .u32 r.ii) := fun W' hW => hrow W' hW 1 _ rfl
      have z2 : ∀ W', Only F wr W' → World.cell? W' ⟨g, o + kk * 8 + 2, none⟩ = some (.int .u16 r.ip) := fun W' hW => hrow W' hW 2 _ rfl
      have z3 : ∀ W', Only F wr W' → World.cell? W' ⟨g, o + kk * 8 + 3, none⟩ = some (.int .u32 r.oi) := fun W' hW => hrow W' hW 3 _ rfl
      have z4 : ∀ W', Only F wr W' → World.cell? W' ⟨g, o + kk * 8 + 4, none⟩ = some (.int .u16 r.op) := fun W' hW => hrow W' hW 4 _ rfl
      have z5 : ∀ W', Only F wr W' → World.cell? W' ⟨g, o + kk * 8 + 5, none⟩ = some (.int .u32 r.a) := fun W' hW => hrow W' hW 5 _ rfl
      have z6 : ∀ W', Only F wr W' → World.cell? W' ⟨g, o + kk * 8 + 6, none⟩ = some (.int .u16 r.f) := fun W' hW => hrow W' hW 6 _ rfl
      have z7 : ∀ W', Only F wr W' → World.cell? W' ⟨g, o + kk * 8 + 7, none⟩ = some (.int .u16 r.t) := fun W' hW => hrow W' hW 7 _ rfl
      have bb : Only F wr wr := Only.refl _ _
      have GR := hide gr; have LW := hide lw; have HFE := hide hF; have HR := hide hr
      have OWN := hide (fun W' (hW : Below wr.heap.size wr W') => gr.own.below hW)
      have hkw : IntKind.i64.wrap ((kk : Int) + 1) = ((kk + 1 : Nat) : Int) := by rw [IntWalk.i64_in _ (by omega)]; omega
      have HLN := hide (show (q.ws.take kk ++ [r]).length = kk + 1 by rw [List.length_append, List.length_take, List.length_cons, List.length_nil]; omega)
      have hdk : decide ((kk : Int) < 0) = false := by rw [decide_eq_false_iff_not]; omega
      clear gr lw hF hrow hrow0 k0 k1 kg hFg hr hgF
      go_upto_region 5 with fail
      have s5 : Only F wr wr.drew := Only.drew bb
      focus
        refine wp_region_J [10] (fun W => Only F wr W) (by kernel_rfl) (s5) (fun hS0 => ?_)
        refine wpAnyJ_take (i := 0) (v := ?v0_1) rfl (by kernel_rfl) (by kernel_rfl) (by kernel_rfl) (by kernel_rfl) (fun _ _ _ h => h) (Or.inl (And.intro (by kernel_rfl) ?q0_1)) hS0 ?r0_1; (case q0_1 => (intro w hx; (try dsimp only); (try go_simp); (try with_reducible rfl)))
        (try simp only [Act.put, List.setIfInBounds_toArray, List.set_cons_zero, List.set_cons_succ, List.getElem_toArray, List.getElem_cons_succ, List.getElem_cons_zero])
        refine wpAnyJ_take (i := 1) (v := ?v1_2) rfl (by kernel_rfl) (by kernel_rfl) (by kernel_rfl) (by kernel_rfl) (fun _ _ _ h => h) (Or.inl (And.intro (by kernel_rfl) ?q1_2)) hS0 ?r1_2; (case q1_2 => (intro w hx; (try dsimp only); (try go_simp); (try with_reducible rfl)))
        (try simp only [Act.put, List.setIfInBounds_toArray, List.set_cons_zero, List.set_cons_succ, List.getElem_toArray, List.getElem_cons_succ, List.getElem_cons_zero])
        refine wpAnyJ_take (i := 2) (v := ?v2_3) rfl (by kernel_rfl) (by kernel_rfl) (by kernel_rfl) (by kernel_rfl) (fun _ _ _ h => h) (Or.inl (And.intro (by kernel_rfl) ?q2_3)) hS0 ?r2_3; (case q2_3 => (intro w hx; (try dsimp only); (try go_simp); (try with_reducible rfl)))
        (try simp only [Act.put, List.setIfInBounds_toArray, List.set_cons_zero, List.set_cons_succ, List.getElem_toArray, List.getElem_cons_succ, List.getElem_cons_zero])
        refine wpAnyJ_take (i := 3) (v := ?v3_4) rfl (by kernel_rfl) (by kernel_rfl) (by kernel_rfl) (by kernel_rfl) (fun _ _ _ h => h) (Or.inl (And.intro (by kernel_rfl) ?q3_4)) hS0 ?r3_4; (case q3_4 => (intro w hx; (try dsimp only); (try go_simp); (try with_reducible rfl)))
        (try simp only [Act.put, List.setIfInBounds_toArray, List.set_cons_zero, List.set_cons_succ, List.getElem_toArray, List.getElem_cons_succ, List.getElem_cons_zero])
        refine wpAnyJ_take (i := 4) (v := ?v4_5) rfl (by kernel_rfl) (by kernel_rfl) (by kernel_rfl) (by kernel_rfl) (fun _ _ _ h => h) (Or.inl (And.intro (by kernel_rfl) ?q4_5)) hS0 ?r4_5; (case q4_5 => (intro w hx; (try dsimp only); (try go_simp); (try with_reducible rfl)))
        (try simp only [Act.put, List.setIfInBounds_toArray, List.set_cons_zero, List.set_cons_succ, List.getElem_toArray, List.getElem_cons_succ, List.getElem_cons_zero])
        refine wpAnyJ_take (i := 5) (v := ?v5_6) rfl (by kernel_rfl) (by kernel_rfl) (by kernel_rfl) (by kernel_rfl) (fun _ _ _ h => h) (Or.inl (And.intro (by kernel_rfl) ?q5_6)) hS0 ?r5_6; (case q5_6 => (intro w hx; (try dsimp only); (try go_simp); (try with_reducible rfl)))
        (try simp only [Act.put, List.setIfInBounds_toArray, List.set_cons_zero, List.set_cons_succ, List.getElem_toArray, List.getElem_cons_succ, List.getElem_cons_zero])
        refine wpAnyJ_take (i := 6) (v := ?v6_7) rfl (by kernel_rfl) (by kernel_rfl) (by kernel_rfl) (by kernel_rfl) (fun _ _ _ h => h) (Or.inl (And.intro (by kernel_rfl) ?q6_7)) hS0 ?r6_7; (case q6_7 => (intro w hx; (try dsimp only); (try go_simp); (try with_reducible rfl)))
        (try simp only [Act.put, List.setIfInBounds_toArray, List.set_cons_zero, List.set_cons_succ, List.getElem_toArray, List.getElem_cons_succ, List.getElem_cons_zero])
        refine wpAnyJ_ready (rs := [7]) (by kernel_rfl) (by simp) ?_
        refine (AllReadyJ.cons rfl (fun K hK => ?_) AllReadyJ.nil)
        rw [if_pos (by kernel_rfl)]
        (try simp only [List.getElem_toArray, List.getElem_cons_succ, List.getElem_cons_zero])
        (focus go_simp)
        refine hK.out _ _ ?hs (fun hS0 => ?_)
        case hs => (first | with_reducible exact hS0 | with_reducible exact sq | exact Only.then hS0 (fresh_below _ _))
        clear hK K
        (try simp only [Act.put, List.setIfInBounds_toArray, List.set_cons_zero, List.set_cons_succ, List.getElem_toArray, List.getElem_cons_succ, List.getElem_cons_zero])
        refine wpAnyJ_ready (rs := [8]) (by kernel_rfl) (by simp) ?_
        refine (AllReadyJ.cons rfl (fun K hK => ?_) AllReadyJ.nil)
        (focus (refine RowK.step_app (K := dwantK) rfl (.tmp 22) (.tmp 28) rfl _ _ rfl rfl (q.ws.take kk) [r] (RowK.Own.below (OWN.out _ (Below.drew (Below.refl _ _))) (fresh_below _ _)) (RowK.Read.one (Cells.new _ _ _)) (by simp; omega) ?_; intro A1 n1 w9 o9 g9 h9; rw [HLN.out] at o9 h9 ⊢; have sq := Only.app hS0 g9 (fun j e => Or.inl (by rw [HFE.out]; exact e))))
        (focus (try go_wp2_with fail))
        refine hK.out _ _ ?hs (fun hS0 => ?_)
        case hs => (first | with_reducible exact hS0 | with_reducible exact sq | exact Only.then hS0 (fresh_below _ _))
        clear hK K
        (try simp only [Act.put, List.setIfInBounds_toArray, List.set_cons_zero, List.set_cons_succ, List.getElem_toArray, List.getElem_cons_succ, List.getElem_cons_zero])
        refine wpAnyJ_take (i := 9) (v := ?v9_8) rfl (by kernel_rfl) (by kernel_rfl) (by kernel_rfl) (by kernel_rfl) (fun _ _ _ h => h) (Or.inl (And.intro (by kernel_rfl) ?q9_8)) hS0 ?r9_8; (case q9_8 => (intro w hx; (try dsimp only); (try go_simp); (try with_reducible rfl)))
        (try simp only [Act.put, List.setIfInBounds_toArray, List.set_cons_zero, List.set_cons_succ, List.getElem_toArray, List.getElem_cons_succ, List.getElem_cons_zero])
        refine wpAnyJ_ready (rs := [10]) (by kernel_rfl) (by simp) ?_
        refine (AllReadyJ.last rfl (by kernel_rfl) (fun K hK => ?_) AllReadyJ.nil)
        (focus (rw [if_pos (by kernel_rfl)]; have y9 := q3 _ hS0; have f9 := f3 _ hS0; go_simp))
        (focus (try go_wp2_with fail))
        refine hK.out _ _ ?_
        clear hK K
        (try simp only [Act.put, List.setIfInBounds_toArray, List.set_cons_zero, List.set_cons_succ, List.getElem_toArray, List.getElem_cons_succ, List.getElem_cons_zero])
        refine wpAnyJ_done (by kernel_rfl) ?_ _
      have gr2 : Grow dwantK wq g3 (fun v => #[.int .u8 q.x.p, .int .u32 q.x.si, .int .u16 q.x.sp, .int .u32 q.x.di, .int .u16 q.x.dp, .int .u32 q.di, .int .u16 q.dp, .bool q.src, .int .i64 q.st, v]) 36 (q.ws.take (kk + 1)) _ (w9.setCell ⟨g3, 9, none⟩ (.slice A1 (kk + 1) n1)) := Grow.step (l := q.ws.take kk) GR.out (fun u v => by simp) (by rw [HFE.out] at hS0; exact hS0) (by rw [List.take_succ_eq_append_getElem hl, ← HR.out]; exact o9) (by
        rcases h9 with e | e
        · exact Or.inl e
        · exact Or.inr (fun j k => by rw [e] at k; cases k; simp))
      clear g9 h9 o9 sq z0 z1 z2 z3 z4 z5 z6 z7 q0 q3 f3 bb s5
      generalize (w9.setCell ⟨g3, 9, none⟩ (.slice A1 (kk + 1) n1)) = w10 at *
      have GR2 := hide gr2
      clear gr2 hS0 OWN GR LW HFE HR HLN
      go_wp2_with fail
      go_roundg (n - (kk + 1))
      case measure => omega
      case rel => exact ⟨kk + 1, by omega, by omega, by go_num, (show Aside _ from ⟨_, GR2.out⟩)⟩
    · have hltz : ¬ (kk : Int) < (n : Int) := by omega
      have e0 : kk = n := by omega
      subst e0
      have q0 : World.cell? wr ⟨w.heap.size, 9, none⟩ = some (.slice A kk c) := k0.at_ 9
      have own := gr.own
      rw [HN.out, List.take_length] at own
      obtain ⟨A2, c2, hV, _⟩ := own.slice
      have hup := gr.up
      subst hV
      have KG := hide kg; have K1 := hide k1; have LW := hide lw; have OW := hide own; have UP := hide hup
      clear kg k1 lw own hup gr k0 hFg F hF
      go_upto_region 6 with fail
      refine wp_region_lit ?_
      refine wpList_load_all rfl 36 (.tmp 3) rfl KG.out (by rfl) _ Tryd.underlying36 rfl (by kernel_rfl) ?_
      (try simp only [Act.put, List.setIfInBounds_toArray, List.set_cons_zero, List.set_cons_succ])
      refine wpList_store_all rfl 36 (.tmp 2) (.tmp 31) rfl (c' := #[.int .u8 q.x.p, .int .u32 q.x.si, .int .u16 q.x.sp, .int .u32 q.x.di, .int .u16 q.x.dp, .int .u32 q.di, .int .u16 q.dp, .bool q.src, .int .i64 q.st, .slice A2 q.ws.length c2]) K1.out (by rfl) (by rfl) (by kernel_rfl) rfl (by simp [Value.oneCell']) ?_
      intro W5 r5 o5 z5
      go_wp2_with fail
      (try simp only [Exit.inBlock, Exit.then])
      refine bodyPost_ret (res_cell Tryd.results5 r5 (by rfl) _ Tryd.underlying36 rfl (by kernel_rfl)) rfl ?_
      exact ⟨_, rfl, Own.other OW.out o5 (fun e => by have := UP.out _ e; omega), (fun j e => by have := UP.out _ e; omega), LW.out.trans (o5.below (fun j e => by omega) LW.out.size)⟩
set_option maxHeartbeats 8000000 in
set_option maxRecDepth 100000 in
theorem l_Doc (w : World) (q : Ent) (A : Option Addr) (n c : Nat) (hn : n = q.hs.length) (hA : holdK.Has w A q.hs) (hn6 : n ≤ 1000) (hc : n ≤ c) :
    Calls Tryd.prog 11 #[.agg #[.int .u8 q.o.p, .int .u32 q.o.si, .int .u16 q.o.sp, .int .u32 q.o.di, .int .u16 q.o.dp, .int .u8 q.r.p, .int .u32 q.r.si, .int .u16 q.r.sp, .int .u32 q.r.di, .int .u16 q.r.dp, .int .i64 q.st, .int .i64 q.dl, .slice A n c]] w (Outs dholdK w (fun v => .agg #[.int .u8 q.o.p, .int .u32 q.o.si, .int .u16 q.o.sp, .int .u32 q.o.di, .int .u16 q.o.dp, .int .u8 q.r.p, .int .u32 q.r.si, .int .u16 q.r.sp, .int .u32 q.r.di, .int .u16 q.r.dp, .int .i64 q.st, .int .i64 q.dl, v]) q.hs) := by
  have HN := hide hn; have HA := hide hA
  have hnz : (n : Int) ≤ 1000 := by omega
  clear hn hA hn6
  go_enter Tryd.func11, Tryd.ntmps11
  have d0 := Cells.new w #[.int .u8 q.o.p, .int .u32 q.o.si, .int .u16 q.o.sp, .int .u32 q.o.di, .int .u16 q.o.dp, .int .u8 q.r.p, .int .u32 q.r.si, .int .u16 q.r.sp, .int .u32 q.r.di, .int .u16 q.r.dp, .int .i64 q.st, .int .i64 q.dl, .slice A n c] 45
  replace d0 := Cells.below (fresh_below (w.alloc (.cells #[.int .u8 q.o.p, .int .u32 q.o.si, .int .u16 q.o.sp, .int .u32 q.o.di, .int .u16 q.o.dp, .int .u8 q.r.p, .int .u32 q.r.si, .int .u16 q.r.sp, .int .u32 q.r.di, .int .u16 q.r.dp, .int .i64 q.st, .int .i64 q.dl, .slice A n c] 45)) (.cells #[.int .u8 0, .int .u32 0, .int .u16 0, .int .u32 0, .int .u16 0, .int .u8 0, .int .u32 0, .int .u16 0, .int .u32 0, .int .u16 0, .int .i64 0, .int .i64 0, .slice none 0 0] 51)) d0
  have d1 := Cells.new (w.alloc (.cells #[.int .u8 q.o.p, .int .u32 q.o.si, .int .u16 q.o.sp, .int .u32 q.o.di, .int .u16 q.o.dp, .int .u8 q.r.p, .int .u32 q.r.si, .int .u16 q.r.sp, .int .u32 q.r.di, .int .u16 q.r.dp, .int .i64 q.st, .int .i64 q.dl, .slice A n c] 45)) #[.int .u8 0, .int .u32 0, .int .u16 0, .int .u32 0, .int .u16 0, .int .u8 0, .int .u32 0, .int .u16 0, .int .u32 0, .int .u16 0, .int .i64 0, .int .i64 0, .slice none 0 0] 51
  have l0 : Below w.heap.size w ((w.alloc (.cells #[.int .u8 q.o.p, .int .u32 q.o.si, .int .u16 q.o.sp, .int .u32 q.o.di, .int .u16 q.o.dp, .int .u8 q.r.p, .int .u32 q.r.si, .int .u16 q.r.sp, .int .u32 q.r.di, .int .u16 q.r.dp, .int .i64 q.st, .int .i64 q.dl, .slice A n c] 45)).alloc (.cells #[.int .u8 0, .int .u32 0, .int .u16 0, .int .u32 0, .int .u16 0, .int .u8 0, .int .u32 0, .int .u16 0, .int .u32 0, .int .u16 0, .int .i64 0, .int .i64 0, .slice none 0 0] 51)) := (bstep (fresh_below _ _) (fresh_below _ _))
  simp only [World.size_alloc] at d1
  have L0 := hide l0; have D0 := hide d0; have D1 := hide d1
  clear l0 d0 d1
  go_upto_region 1 with fail
  have l0 := L0.out; have d0 := D0.out; have d1 := D1.out
  clear L0 D0 D1
  generalize ((w.alloc (.cells #[.int .u8 q.o.p, .int .u32 q.o.si, .int .u16 q.o.sp, .int .u32 q.o.di, .int .u16 q.o.dp, .int .u8 q.r.p, .int .u32 q.r.si, .int .u16 q.r.sp, .int .u32 q.r.di, .int .u16 q.r.dp, .int .i64 q.st, .int .i64 q.dl, .slice A n c] 45)).alloc (.cells #[.int .u8 0, .int .u32 0, .int .u16 0, .int .u32 0, .int .u16 0, .int .u8 0, .int .u32 0, .int .u16 0, .int .u32 0, .int .u16 0, .int .i64 0, .int .i64 0, .slice none 0 0] 51)) = w1 at *
  have qd0_0 : ∀ W', Below w1.heap.size w1 W' → World.cell? W' ⟨w.heap.size, 0, none⟩ = some (.int .u8 q.o.p) := fun W' h => Cells.at_ (Cells.below h d0) 0
  have qd0_1 : ∀ W', Below w1.heap.size w1 W' → World.cell? W' ⟨w.heap.size, 1, none⟩ = some (.int .u32 q.o.si) := fun W' h => Cells.at_ (Cells.below h d0) 1
  have qd0_2 : ∀ W', Below w1.heap.size w1 W' → World.cell? W' ⟨w.heap.size, 2, none⟩ = some (.int .u16 q.o.sp) := fun W' h => Cells.at_ (Cells.below h d0) 2
  have qd0_3 : ∀ W', Below w1.heap.size w1 W' → World.cell? W' ⟨w.heap.size, 3, none⟩ = some (.int .u32 q.o.di) := fun W' h => Cells.at_ (Cells.below h d0) 3
  have qd0_4 : ∀ W', Below w1.heap.size w1 W' → World.cell? W' ⟨w.heap.size, 4, none⟩ = some (.int .u16 q.o.dp) := fun W' h => Cells.at_ (Cells.below h d0) 4
  have qd0_5 : ∀ W', Below w1.heap.size w1 W' → World.cell? W' ⟨w.heap.size, 5, none⟩ = some (.int .u8 q.r.p) := fun W' h => Cells.at_ (Cells.below h d0) 5
  have qd0_6 : ∀ W', Below w1.heap.size w1 W' → World.cell? W' ⟨w.heap.size, 6, none⟩ = some (.int .u32 q.r.si) := fun W' h => Cells.at_ (Cells.below h d0) 6
  have qd0_7 : ∀ W', Below w1.heap.size w1 W' → World.cell? W' ⟨w.heap.size, 7, none⟩ = some (.int .u16 q.r.sp) := fun W' h => Cells.at_ (Cells.below h d0) 7
  have qd0_8 : ∀ W', Below w1.heap.size w1 W' → World.cell? W' ⟨w.heap.size, 8, none⟩ = some (.int .u32 q.r.di) := fun W' h => Cells.at_ (Cells.below h d0) 8
  have qd0_9 : ∀ W', Below w1.heap.size w1 W' → World.cell? W' ⟨w.heap.size, 9, none⟩ = some (.int .u16 q.r.dp) := fun W' h => Cells.at_ (Cells.below h d0) 9
  have qd0_10 : ∀ W', Below w1.heap.size w1 W' → World.cell? W' ⟨w.heap.size, 10, none⟩ = some (.int .i64 q.st) := fun W' h => Cells.at_ (Cells.below h d0) 10
  have qd0_11 : ∀ W', Below w1.heap.size w1 W' → World.cell? W' ⟨w.heap.size, 11, none⟩ = some (.int .i64 q.dl) := fun W' h => Cells.at_ (Cells.below h d0) 11
  have qd0_12 : ∀ W', Below w1.heap.size w1 W' → World.cell? W' ⟨w.heap.size, 12, none⟩ = some (.slice A n c) := fun W' h => Cells.at_ (Cells.below h d0) 12
  have qd1_0 : ∀ W', Below w1.heap.size w1 W' → World.cell? W' ⟨w.heap.size + 1, 0, none⟩ = some (.int .u8 0) := fun W' h => Cells.at_ (Cells.below h d1) 0
  have qd1_1 : ∀ W', Below w1.heap.size w1 W' → World.cell? W' ⟨w.heap.size + 1, 1, none⟩ = some (.int .u32 0) := fun W' h => Cells.at_ (Cells.below h d1) 1
  have qd1_2 : ∀ W', Below w1.heap.size w1 W' → World.cell? W' ⟨w.heap.size + 1, 2, none⟩ = some (.int .u16 0) := fun W' h => Cells.at_ (Cells.below h d1) 2
  have qd1_3 : ∀ W', Below w1.heap.size w1 W' → World.cell? W' ⟨w.heap.size + 1, 3, none⟩ = some (.int .u32 0) := fun W' h => Cells.at_ (Cells.below h d1) 3
  have qd1_4 : ∀ W', Below w1.heap.size w1 W' → World.cell? W' ⟨w.heap.size + 1, 4, none⟩ = some (.int .u16 0) := fun W' h => Cells.at_ (Cells.below h d1) 4
  have qd1_5 : ∀ W', Below w1.heap.size w1 W' → World.cell? W' ⟨w.heap.size + 1, 5, none⟩ = some (.int .u8 0) := fun W' h => Cells.at_ (Cells.below h d1) 5
  have qd1_6 : ∀ W', Below w1.heap.size w1 W' → World.cell? W' ⟨w.heap.size + 1, 6, none⟩ = some (.int .u32 0) := fun W' h => Cells.at_ (Cells.below h d1) 6
  have qd1_7 : ∀ W', Below w1.heap.size w1 W' → World.cell? W' ⟨w.heap.size + 1, 7, none⟩ = some (.int .u16 0) := fun W' h => Cells.at_ (Cells.below h d1) 7
  have qd1_8 : ∀ W', Below w1.heap.size w1 W' → World.cell? W' ⟨w.heap.size + 1, 8, none⟩ = some (.int .u32 0) := fun W' h => Cells.at_ (Cells.below h d1) 8
  have qd1_9 : ∀ W', Below w1.heap.size w1 W' → World.cell? W' ⟨w.heap.size + 1, 9, none⟩ = some (.int .u16 0) := fun W' h => Cells.at_ (Cells.below h d1) 9
  have qd1_10 : ∀ W', Below w1.heap.size w1 W' → World.cell? W' ⟨w.heap.size + 1, 10, none⟩ = some (.int .i64 0) := fun W' h => Cells.at_ (Cells.below h d1) 10
  have qd1_11 : ∀ W', Below w1.heap.size w1 W' → World.cell? W' ⟨w.heap.size + 1, 11, none⟩ = some (.int .i64 0) := fun W' h => Cells.at_ (Cells.below h d1) 11
  have qd1_12 : ∀ W', Below w1.heap.size w1 W' → World.cell? W' ⟨w.heap.size + 1, 12, none⟩ = some (.slice none 0 0) := fun W' h => Cells.at_ (Cells.below h d1) 12
  have bb : Below w1.heap.size w1 w1 := Below.refl _ _
  have L0 := hide l0; have D0 := hide d0; have D1 := hide d1
  clear l0 d0 d1
  clear bb
  have b0 : Below w1.heap.size w1 w1 := Below.refl _ _
  go_upto_region 2 with fail
  clear b0 qd0_0 qd0_1 qd0_2 qd0_3 qd0_4 qd0_5 qd0_6 qd0_7 qd0_8 qd0_9 qd0_10 qd0_11 qd0_12 qd1_0 qd1_1 qd1_2 qd1_3 qd1_4 qd1_5 qd1_6 qd1_7 qd1_8 qd1_9 qd1_10 qd1_11 qd1_12
  have nn := Cells.new w1 #[.int .u8 q.o.p, .int .u32 q.o.si, .int .u16 q.o.sp, .int .u32 q.o.di, .int .u16 q.o.dp, .int .u8 q.r.p, .int .u32 q.r.si, .int .u16 q.r.sp, .int .u32 q.r.di, .int .u16 q.r.dp, .int .i64 q.st, .int .i64 q.dl, .slice none 0 0] 51
  have bn := fresh_below w1 (.cells #[.int .u8 q.o.p, .int .u32 q.o.si, .int .u16 q.o.sp, .int .u32 q.o.di, .int .u16 q.o.dp, .int .u8 q.r.p, .int .u32 q.r.si, .int .u16 q.r.sp, .int .u32 q.r.di, .int .u16 q.r.dp, .int .i64 q.st, .int .i64 q.dl, .slice none 0 0] 51)
  have hg3 : w.heap.size + 1 < w1.heap.size := Cells.lt D1.out
  replace D0 := hide (Cells.below bn D0.out); replace D1 := hide (Cells.below bn D1.out); replace L0 := hide (bstep L0.out bn)
  clear bn
  generalize w1.heap.size = g3 at nn hg3 ⊢
  generalize (w1.alloc (.cells #[.int .u8 q.o.p, .int .u32 q.o.si, .int .u16 q.o.sp, .int .u32 q.o.di, .int .u16 q.o.dp, .int .u8 q.r.p, .int .u32 q.r.si, .int .u16 q.r.sp, .int .u32 q.r.di, .int .u16 q.r.dp, .int .i64 q.st, .int .i64 q.dl, .slice none 0 0] 51)) = wq at *
  have HG3 := hide hg3; have GR0 := hide (Grow.start (K := dholdK) (f := fun v => #[.int .u8 q.o.p, .int .u32 q.o.si, .int .u16 q.o.sp, .int .u32 q.o.di, .int .u16 q.o.dp, .int .u8 q.r.p, .int .u32 q.r.si, .int .u16 q.r.sp, .int .u32 q.r.di, .int .u16 q.r.dp, .int .i64 q.st, .int .i64 q.dl, v]) nn)
  clear nn hg3
  go_wp2_with fail
  go_loopg [4] n (fun gg s4 wr => ∃ kk : Nat, kk ≤ n ∧ n - kk ≤ gg ∧ s4 = .int .i64 kk ∧ Aside (∃ V, Grow dholdK wq g3 (fun v => #[.int .u8 q.o.p, .int .u32 q.o.si, .int .u16 q.o.sp, .int .u32 q.o.di, .int .u16 q.o.dp, .int .u8 q.r.p, .int .u32 q.r.si, .int .u16 q.r.sp, .int .u32 q.r.di, .int .u16 q.r.dp, .int .i64 q.st, .int .i64 q.dl, v]) 51 (q.hs.take kk) V wr))
  case atStart => exact ⟨0, Nat.zero_le _, by omega, rfl, (show Aside _ from ⟨_, GR0.out⟩)⟩
  case round =>
    clear GR0
    obtain ⟨kk, hkk, hg, rfl, GG⟩ := hrel
    obtain ⟨V, gr⟩ := GG.out
    clear GG
    have hg3 := HG3.out
    have k0 : Cells wr w.heap.size #[.int .u8 q.o.p, .int .u32 q.o.si, .int .u16 q.o.sp, .int .u32 q.o.di, .int .u16 q.o.dp, .int .u8 q.r.p, .int .u32 q.r.si, .int .u16 q.r.sp, .int .u32 q.r.di, .int .u16 q.r.dp, .int .i64 q.st, .int .i64 q.dl, .slice A n c] 45 := (gr.b.block w.heap.size (by omega)).trans D0.out
    have k1 : Cells wr (w.heap.size + 1) #[.int .u8 0, .int .u32 0, .int .u16 0, .int .u32 0, .int .u16 0, .int .u8 0, .int .u32 0, .int .u16 0, .int .u32 0, .int .u16 0, .int .i64 0, .int .i64 0, .slice none 0 0] 51 := (gr.b.block (w.heap.size + 1) (by omega)).trans D1.out
    have lw : Below w.heap.size w wr := L0.out.trans (gr.b.mono (by omega))
    have kg := gr.c
    obtain ⟨F, hF⟩ : ∃ F : Nat → Prop, F = fun j => V.ownBlock = some j := ⟨_, rfl⟩
    have hFg : ∀ j, F j → g3 < j := fun j e => gr.up j (by rw [hF] at e; exact e)
    by_cases hlt : kk < n
    · have hltz : (kk : Int) < (n : Int) := by omega
      have hl : kk < q.hs.length := by have := HN.out; omega
      obtain ⟨g, o, rfl, hg0, hrow0⟩ := HA.out.at_ hl
      obtain ⟨r, hr⟩ : ∃ r, r = q.hs[kk] := ⟨_, rfl⟩
      rw [← hr] at hrow0
      have hgF : ¬ F g := fun e => by have := hFg g e; omega
      have hrow : ∀ W', Only F wr W' → ∀ j u, (holdK.cells r).toList[j]? = some u → W'.cell? ⟨g, o + kk * 4 + j, none⟩ = some u := fun W' hW j u hu => (World.cell?_of_block (hW.block g (Nat.lt_of_lt_of_le hg0 lw.size) hgF)).trans (hrow0 j u hu wr lw)
      have q0 : ∀ W', Only F wr W' → World.cell? W' ⟨w.heap.size, 12, none⟩ = some (.slice (some ⟨g, o, none⟩) n c) := fun W' hW => (Cells.only k0 hW (fun e => by have := hFg _ e; omega)).at_ 12
      have q3 : ∀ W', Only F wr W' → World.cell? W' ⟨g3, 12, none⟩ = some V := fun W' hW => (Cells.only kg hW (fun e => by have := hFg _ e; omega)).at_ 12
      have f3 : ∀ W', Only F wr W' → World.frozen? W' ⟨g3, 12, none⟩ = false := fun W' hW => (Cells.only kg hW (fun e => by have := hFg _ e; omega)).free 12
      have z0 : ∀ W', Only F wr W' → World.cell? W' ⟨g, o + kk * 4, none⟩ = some (.int .u32 r.oa) := fun W' hW => hrow W' hW 0 _ rfl
      have z1 : ∀ W', Only F wr W' → World.cell? W' ⟨g, o + kk * 4 + 1, none⟩ = some (.int .u16 r.op) := fun W' hW => hrow W' hW 1 _ rfl
      have z2 : ∀ W', Only F wr W' → World.cell? W' ⟨g, o + kk * 4 + 2, none⟩ = some (.int .u32 r.ia) := fun W' hW => hrow W' hW 2 _ rfl
      have z3 : ∀ W', Only F wr W' → World.cell? W' ⟨g, o + kk * 4 + 3, none⟩ = some (.int .u16 r.ip) := fun W' hW => hrow W' hW 3 _ rfl
      have bb : Only F wr wr := Only.refl _ _
      have GR := hide gr; have LW := hide lw; have HFE := hide hF; have HR := hide hr
      have OWN := hide (fun W' (hW : Below wr.heap.size wr W') => gr.own.below hW)
      have hkw : IntKind.i64.wrap ((kk : Int) + 1) = ((kk + 1 : Nat) : Int) := by rw [IntWalk.i64_in _ (by omega)]; omega
      have HLN := hide (show (q.hs.take kk ++ [r]).length = kk + 1 by rw [List.length_append, List.length_take, List.length_cons, List.length_nil]; omega)
      have hdk : decide ((kk : Int) < 0) = false := by rw [decide_eq_false_iff_not]; omega
      clear gr lw hF hrow hrow0 k0 k1 kg hFg hr hgF
      go_upto_region 5 with fail
      have s5 : Only F wr wr.drew := Only.drew bb
      focus
        refine wp_region_J [10] (fun W => Only F wr W) (by kernel_rfl) (s5) (fun hS0 => ?_)
        refine wpAnyJ_take (i := 0) (v := ?v0_9) rfl (by kernel_rfl) (by kernel_rfl) (by kernel_rfl) (by kernel_rfl) (fun _ _ _ h => h) (Or.inl (And.intro (by kernel_rfl) ?q0_9)) hS0 ?r0_9; (case q0_9 => (intro w hx; (try dsimp only); (try go_simp); (try with_reducible rfl)))
        (try simp only [Act.put, List.setIfInBounds_toArray, List.set_cons_zero, List.set_cons_succ, List.getElem_toArray, List.getElem_cons_succ, List.getElem_cons_zero])
        refine wpAnyJ_take (i := 1) (v := ?v1_10) rfl (by kernel_rfl) (by kernel_rfl) (by kernel_rfl) (by kernel_rfl) (fun _ _ _ h => h) (Or.inl (And.intro (by kernel_rfl) ?q1_10)) hS0 ?r1_10; (case q1_10 => (intro w hx; (try dsimp only); (try go_simp); (try with_reducible rfl)))
        (try simp only [Act.put, List.setIfInBounds_toArray, List.set_cons_zero, List.set_cons_succ, List.getElem_toArray, List.getElem_cons_succ, List.getElem_cons_zero])
        refine wpAnyJ_take (i := 2) (v := ?v2_11) rfl (by kernel_rfl) (by kernel_rfl) (by kernel_rfl) (by kernel_rfl) (fun _ _ _ h => h) (Or.inl (And.intro (by kernel_rfl) ?q2_11)) hS0 ?r2_11; (case q2_11 => (intro w hx; (try dsimp only); (try go_simp); (try with_reducible rfl)))
        (try simp only [Act.put, List.setIfInBounds_toArray, List.set_cons_zero, List.set_cons_succ, List.getElem_toArray, List.getElem_cons_succ, List.getElem_cons_zero])
        refine wpAnyJ_take (i := 3) (v := ?v3_12) rfl (by kernel_rfl) (by kernel_rfl) (by kernel_rfl) (by kernel_rfl) (fun _ _ _ h => h) (Or.inl (And.intro (by kernel_rfl) ?q3_12)) hS0 ?r3_12; (case q3_12 => (intro w hx; (try dsimp only); (try go_simp); (try with_reducible rfl)))
        (try simp only [Act.put, List.setIfInBounds_toArray, List.set_cons_zero, List.set_cons_succ, List.getElem_toArray, List.getElem_cons_succ, List.getElem_cons_zero])
        refine wpAnyJ_take (i := 4) (v := ?v4_13) rfl (by kernel_rfl) (by kernel_rfl) (by kernel_rfl) (by kernel_rfl) (fun _ _ _ h => h) (Or.inl (And.intro (by kernel_rfl) ?q4_13)) hS0 ?r4_13; (case q4_13 => (intro w hx; (try dsimp only); (try go_simp); (try with_reducible rfl)))
        (try simp only [Act.put, List.setIfInBounds_toArray, List.set_cons_zero, List.set_cons_succ, List.getElem_toArray, List.getElem_cons_succ, List.getElem_cons_zero])
        refine wpAnyJ_take (i := 5) (v := ?v5_14) rfl (by kernel_rfl) (by kernel_rfl) (by kernel_rfl) (by kernel_rfl) (fun _ _ _ h => h) (Or.inl (And.intro (by kernel_rfl) ?q5_14)) hS0 ?r5_14; (case q5_14 => (intro w hx; (try dsimp only); (try go_simp); (try with_reducible rfl)))
        (try simp only [Act.put, List.setIfInBounds_toArray, List.set_cons_zero, List.set_cons_succ, List.getElem_toArray, List.getElem_cons_succ, List.getElem_cons_zero])
        refine wpAnyJ_take (i := 6) (v := ?v6_15) rfl (by kernel_rfl) (by kernel_rfl) (by kernel_rfl) (by kernel_rfl) (fun _ _ _ h => h) (Or.inl (And.intro (by kernel_rfl) ?q6_15)) hS0 ?r6_15; (case q6_15 => (intro w hx; (try dsimp only); (try go_simp); (try with_reducible rfl)))
        (try simp only [Act.put, List.setIfInBounds_toArray, List.set_cons_zero, List.set_cons_succ, List.getElem_toArray, List.getElem_cons_succ, List.getElem_cons_zero])
        refine wpAnyJ_ready (rs := [7]) (by kernel_rfl) (by simp) ?_
        refine (AllReadyJ.cons rfl (fun K hK => ?_) AllReadyJ.nil)
        rw [if_pos (by kernel_rfl)]
        (try simp only [List.getElem_toArray, List.getElem_cons_succ, List.getElem_cons_zero])
        (focus go_simp)
        refine hK.out _ _ ?hs (fun hS0 => ?_)
        case hs => (first | with_reducible exact hS0 | with_reducible exact sq | exact Only.then hS0 (fresh_below _ _))
        clear hK K
        (try simp only [Act.put, List.setIfInBounds_toArray, List.set_cons_zero, List.set_cons_succ, List.getElem_toArray, List.getElem_cons_succ, List.getElem_cons_zero])
        refine wpAnyJ_ready (rs := [8]) (by kernel_rfl) (by simp) ?_
        refine (AllReadyJ.cons rfl (fun K hK => ?_) AllReadyJ.nil)
        (focus (refine RowK.step_app (K := dholdK) rfl (.tmp 22) (.tmp 28) rfl _ _ rfl rfl (q.hs.take kk) [r] (RowK.Own.below (OWN.out _ (Below.drew (Below.refl _ _))) (fresh_below _ _)) (RowK.Read.one (Cells.new _ _ _)) (by simp; omega) ?_; intro A1 n1 w9 o9 g9 h9; rw [HLN.out] at o9 h9 ⊢; have sq := Only.app hS0 g9 (fun j e => Or.inl (by rw [HFE.out]; exact e))))
        (focus (try go_wp2_with fail))
        refine hK.out _ _ ?hs (fun hS0 => ?_)
        case hs => (first | with_reducible exact hS0 | with_reducible exact sq | exact Only.then hS0 (fresh_below _ _))
        clear hK K
        (try simp only [Act.put, List.setIfInBounds_toArray, List.set_cons_zero, List.set_cons_succ, List.getElem_toArray, List.getElem_cons_succ, List.getElem_cons_zero])
        refine wpAnyJ_take (i := 9) (v := ?v9_16) rfl (by kernel_rfl) (by kernel_rfl) (by kernel_rfl) (by kernel_rfl) (fun _ _ _ h => h) (Or.inl (And.intro (by kernel_rfl) ?q9_16)) hS0 ?r9_16; (case q9_16 => (intro w hx; (try dsimp only); (try go_simp); (try with_reducible rfl)))
        (try simp only [Act.put, List.setIfInBounds_toArray, List.set_cons_zero, List.set_cons_succ, List.getElem_toArray, List.getElem_cons_succ, List.getElem_cons_zero])
        refine wpAnyJ_ready (rs := [10]) (by kernel_rfl) (by simp) ?_
        refine (AllReadyJ.last rfl (by kernel_rfl) (fun K hK => ?_) AllReadyJ.nil)
        (focus (rw [if_pos (by kernel_rfl)]; have y9 := q3 _ hS0; have f9 := f3 _ hS0; go_simp))
        (focus (try go_wp2_with fail))
        refine hK.out _ _ ?_
        clear hK K
        (try simp only [Act.put, List.setIfInBounds_toArray, List.set_cons_zero, List.set_cons_succ, List.getElem_toArray, List.getElem_cons_succ, List.getElem_cons_zero])
        refine wpAnyJ_done (by kernel_rfl) ?_ _
      have gr2 : Grow dholdK wq g3 (fun v => #[.int .u8 q.o.p, .int .u32 q.o.si, .int .u16 q.o.sp, .int .u32 q.o.di, .int .u16 q.o.dp, .int .u8 q.r.p, .int .u32 q.r.si, .int .u16 q.r.sp, .int .u32 q.r.di, .int .u16 q.r.dp, .int .i64 q.st, .int .i64 q.dl, v]) 51 (q.hs.take (kk + 1)) _ (w9.setCell ⟨g3, 12, none⟩ (.slice A1 (kk + 1) n1)) := Grow.step (l := q.hs.take kk) GR.out (fun u v => by simp) (by rw [HFE.out] at hS0; exact hS0) (by rw [List.take_succ_eq_append_getElem hl, ← HR.out]; exact o9) (by
        rcases h9 with e | e
        · exact Or.inl e
        · exact Or.inr (fun j k => by rw [e] at k; cases k; simp))
      clear g9 h9 o9 sq z0 z1 z2 z3 q0 q3 f3 bb s5
      generalize (w9.setCell ⟨g3, 12, none⟩ (.slice A1 (kk + 1) n1)) = w10 at *
      have GR2 := hide gr2
      clear gr2 hS0 OWN GR LW HFE HR HLN
      go_wp2_with fail
      go_roundg (n - (kk + 1))
      case measure => omega
      case rel => exact ⟨kk + 1, by omega, by omega, by go_num, (show Aside _ from ⟨_, GR2.out⟩)⟩
    · have hltz : ¬ (kk : Int) < (n : Int) := by omega
      have e0 : kk = n := by omega
      subst e0
      have q0 : World.cell? wr ⟨w.heap.size, 12, none⟩ = some (.slice A kk c) := k0.at_ 12
      have own := gr.own
      rw [HN.out, List.take_length] at own
      obtain ⟨A2, c2, hV, _⟩ := own.slice
      have hup := gr.up
      subst hV
      have KG := hide kg; have K1 := hide k1; have LW := hide lw; have OW := hide own; have UP := hide hup
      clear kg k1 lw own hup gr k0 hFg F hF
      go_upto_region 6 with fail
      refine wp_region_lit ?_
      refine wpList_load_all rfl 51 (.tmp 3) rfl KG.out (by rfl) _ Tryd.underlying51 rfl (by kernel_rfl) ?_
      (try simp only [Act.put, List.setIfInBounds_toArray, List.set_cons_zero, List.set_cons_succ])
      refine wpList_store_all rfl 51 (.tmp 2) (.tmp 31) rfl (c' := #[.int .u8 q.o.p, .int .u32 q.o.si, .int .u16 q.o.sp, .int .u32 q.o.di, .int .u16 q.o.dp, .int .u8 q.r.p, .int .u32 q.r.si, .int .u16 q.r.sp, .int .u32 q.r.di, .int .u16 q.r.dp, .int .i64 q.st, .int .i64 q.dl, .slice A2 q.hs.length c2]) K1.out (by rfl) (by rfl) (by kernel_rfl) rfl (by simp [Value.oneCell']) ?_
      intro W5 r5 o5 z5
      go_wp2_with fail
      (try simp only [Exit.inBlock, Exit.then])
      refine bodyPost_ret (res_cell Tryd.results11 r5 (by rfl) _ Tryd.underlying51 rfl (by kernel_rfl)) rfl ?_
      exact ⟨_, rfl, Own.other OW.out o5 (fun e => by have := UP.out _ e; omega), (fun j e => by have := UP.out _ e; omega), LW.out.trans (o5.below (fun j e => by omega) LW.out.size)⟩
end Go.Proofs.YtilfcikhipadpaaDoor
end

section
/- binds.Make: a plan without a source. -/
set_option linter.unusedVariables false
set_option linter.unusedSimpArgs false
namespace Go.Proofs.YtilfcikhipadpaaDoor
open Go.RowKit Go.Lib
attribute [local go_sem] Oper.semAt_some envL lookV

set_option maxHeartbeats 16000000 in
set_option maxRecDepth 100000 in
theorem b_Make_a (w : World) (q : Pln) (A Ao : Option Addr) (n c co : Nat) (os : List Pt) (now : Int) (hn : n = q.ws.length) (hA : wantK.Has w A q.ws) (hno : n = os.length) (hO : pointK.Has w Ao os) (hn6 : n ≤ 1000) (hc : n ≤ c) (hco : n ≤ co) (hT : Lasts w) (hW : Wds w) (hp : 0 ≤ q.x.p ∧ q.x.p ≤ 255) (n0 : 0 ≤ now) (n1 : now ≤ 1099511627776) (hs : q.src = false) :
    Calls Tryd.prog 8 #[.agg #[.int .u8 q.x.p, .int .u32 q.x.si, .int .u16 q.x.sp, .int .u32 q.x.di, .int .u16 q.x.dp, .int .u32 q.di, .int .u16 q.dp, .bool false, .int .i64 q.st, .slice A n c], .slice Ao n co, .int .i64 now] w (Made holdK w (makeV q os now)) := by
  obtain ⟨o0, ho0⟩ : ∃ o0 : Pt, o0 = os.getD 0 ⟨0, 0⟩ := ⟨_, rfl⟩
  have hent : entOf q os now = ⟨q.x, ⟨q.x.p, q.di, q.dp, q.x.si, q.x.sp⟩, q.st, now + timeV (flowV q.x.p) q.st, holdsL q.ws os⟩ := by
    unfold entOf srcOf
    rw [hs]
    skip
  have hmk : makeV q os now = if fitsL q.ws os = false then (zeroE, 2) else if entMay (entOf q os now) = false then (zeroE, 2) else (entOf q os now, 0) := by
    unfold makeV
    rw [if_neg (by omega)]
  rw [hent] at hmk
  clear hent
  have hlen : (holdsL q.ws os).length = n := by rw [holdsL_len _ _ (by omega)]; omega
  obtain ⟨tv, htv⟩ : ∃ tv, timeV (flowV q.x.p) q.st = tv := ⟨_, rfl⟩
  have htb : 0 ≤ tv ∧ tv ≤ 7440 := by rw [← htv]; exact timeV_bd _ _
  rw [htv] at hmk
  obtain ⟨ENT, hENT⟩ : ∃ ENT : Ent, ENT = ⟨q.x, ⟨q.x.p, q.di, q.dp, q.x.si, q.x.sp⟩, q.st, now + tv, holdsL q.ws os⟩ := ⟨_, rfl⟩
  rw [← hENT] at hmk
  obtain ⟨RV, hRV⟩ : ∃ RV, makeV q os now = RV := ⟨_, rfl⟩
  rw [hRV]
  rw [hRV] at hmk
  have HRV := hide hmk
  clear hmk hRV
  have HN := hide hn; have HNO := hide hno; have HA := hide hA; have HO := hide hO; have HT := hide hT; have HW := hide hW; have HP := hide hp; have HO0 := hide ho0; have HLEN := hide hlen; have HTV := hide htv; have HTB := hide htb; have HENT := hide hENT
  have u0 : ¬ now < 0 := by omega
  have u1 : ¬ 1099511627776 < now := by omega
  have N0 := hide n0; have N1 := hide n1
  have hnz : (n : Int) ≤ 1000 := by omega
  clear hn hno hA hO hn6 hT hW hp ho0 hlen htv htb hENT n0 n1 hs
  skip
  go_enter Tryd.func8, Tryd.ntmps8
  have d0 := Cells.new w #[.int .u8 q.x.p, .int .u32 q.x.si, .int .u16 q.x.sp, .int .u32 q.x.di, .int .u16 q.x.dp, .int .u32 q.di, .int .u16 q.dp, .bool false, .int .i64 q.st, .slice A n c] 31
  replace d0 := Cells.below (fresh_below (w.alloc (.cells #[.int .u8 q.x.p, .int .u32 q.x.si, .int .u16 q.x.sp, .int .u32 q.x.di, .int .u16 q.x.dp, .int .u32 q.di, .int .u16 q.dp, .bool false, .int .i64 q.st, .slice A n c] 31)) (.cells #[.int .u8 0, .int .u32 0, .int .u16 0, .int .u32 0, .int .u16 0, .int .u8 0, .int .u32 0, .int .u16 0, .int .u32 0, .int .u16 0, .int .i64 0, .int .i64 0, .slice none 0 0] 45)) d0
  have d1 := Cells.new (w.alloc (.cells #[.int .u8 q.x.p, .int .u32 q.x.si, .int .u16 q.x.sp, .int .u32 q.x.di, .int .u16 q.x.dp, .int .u32 q.di, .int .u16 q.dp, .bool false, .int .i64 q.st, .slice A n c] 31)) #[.int .u8 0, .int .u32 0, .int .u16 0, .int .u32 0, .int .u16 0, .int .u8 0, .int .u32 0, .int .u16 0, .int .u32 0, .int .u16 0, .int .i64 0, .int .i64 0, .slice none 0 0] 45
  have l0 : Below w.heap.size w ((w.alloc (.cells #[.int .u8 q.x.p, .int .u32 q.x.si, .int .u16 q.x.sp, .int .u32 q.x.di, .int .u16 q.x.dp, .int .u32 q.di, .int .u16 q.dp, .bool false, .int .i64 q.st, .slice A n c] 31)).alloc (.cells #[.int .u8 0, .int .u32 0, .int .u16 0, .int .u32 0, .int .u16 0, .int .u8 0, .int .u32 0, .int .u16 0, .int .u32 0, .int .u16 0, .int .i64 0, .int .i64 0, .slice none 0 0] 45)) := (bstep (fresh_below _ _) (fresh_below _ _))
  simp only [World.size_alloc] at d1
  have L0 := hide l0; have D0 := hide d0; have D1 := hide d1
  clear l0 d0 d1
  go_upto_region 1 with fail
  have l0 := L0.out; have d0 := D0.out; have d1 := D1.out
  clear L0 D0 D1
  generalize ((w.alloc (.cells #[.int .u8 q.x.p, .int .u32 q.x.si, .int .u16 q.x.sp, .int .u32 q.x.di, .int .u16 q.x.dp, .int .u32 q.di, .int .u16 q.dp, .bool false, .int .i64 q.st, .slice A n c] 31)).alloc (.cells #[.int .u8 0, .int .u32 0, .int .u16 0, .int .u32 0, .int .u16 0, .int .u8 0, .int .u32 0, .int .u16 0, .int .u32 0, .int .u16 0, .int .i64 0, .int .i64 0, .slice none 0 0] 45)) = w1 at *
  have qd0_0 : ∀ W', Below w1.heap.size w1 W' → World.cell? W' ⟨w.heap.size, 0, none⟩ = some (.int .u8 q.x.p) := fun W' h => Cells.at_ (Cells.below h d0) 0
  have qd0_1 : ∀ W', Below w1.heap.size w1 W' → World.cell? W' ⟨w.heap.size, 1, none⟩ = some (.int .u32 q.x.si) := fun W' h => Cells.at_ (Cells.below h d0) 1
  have qd0_2 : ∀ W', Below w1.heap.size w1 W' → World.cell? W' ⟨w.heap.size, 2, none⟩ = some (.int .u16 q.x.sp) := fun W' h => Cells.at_ (Cells.below h d0) 2
  have qd0_3 : ∀ W', Below w1.heap.size w1 W' → World.cell? W' ⟨w.heap.size, 3, none⟩ = some (.int .u32 q.x.di) := fun W' h => Cells.at_ (Cells.below h d0) 3
  have qd0_4 : ∀ W', Below w1.heap.size w1 W' → World.cell? W' ⟨w.heap.size, 4, none⟩ = some (.int .u16 q.x.dp) := fun W' h => Cells.at_ (Cells.below h d0) 4
  have qd0_5 : ∀ W', Below w1.heap.size w1 W' → World.cell? W' ⟨w.heap.size, 5, none⟩ = some (.int .u32 q.di) := fun W' h => Cells.at_ (Cells.below h d0) 5
  have qd0_6 : ∀ W', Below w1.heap.size w1 W' → World.cell? W' ⟨w.heap.size, 6, none⟩ = some (.int .u16 q.dp) := fun W' h => Cells.at_ (Cells.below h d0) 6
  have qd0_7 : ∀ W', Below w1.heap.size w1 W' → World.cell? W' ⟨w.heap.size, 7, none⟩ = some (.bool false) := fun W' h => Cells.at_ (Cells.below h d0) 7
  have qd0_8 : ∀ W', Below w1.heap.size w1 W' → World.cell? W' ⟨w.heap.size, 8, none⟩ = some (.int .i64 q.st) := fun W' h => Cells.at_ (Cells.below h d0) 8
  have qd0_9 : ∀ W', Below w1.heap.size w1 W' → World.cell? W' ⟨w.heap.size, 9, none⟩ = some (.slice A n c) := fun W' h => Cells.at_ (Cells.below h d0) 9
  have qd1_0 : ∀ W', Below w1.heap.size w1 W' → World.cell? W' ⟨w.heap.size + 1, 0, none⟩ = some (.int .u8 0) := fun W' h => Cells.at_ (Cells.below h d1) 0
  have qd1_1 : ∀ W', Below w1.heap.size w1 W' → World.cell? W' ⟨w.heap.size + 1, 1, none⟩ = some (.int .u32 0) := fun W' h => Cells.at_ (Cells.below h d1) 1
  have qd1_2 : ∀ W', Below w1.heap.size w1 W' → World.cell? W' ⟨w.heap.size + 1, 2, none⟩ = some (.int .u16 0) := fun W' h => Cells.at_ (Cells.below h d1) 2
  have qd1_3 : ∀ W', Below w1.heap.size w1 W' → World.cell? W' ⟨w.heap.size + 1, 3, none⟩ = some (.int .u32 0) := fun W' h => Cells.at_ (Cells.below h d1) 3
  have qd1_4 : ∀ W', Below w1.heap.size w1 W' → World.cell? W' ⟨w.heap.size + 1, 4, none⟩ = some (.int .u16 0) := fun W' h => Cells.at_ (Cells.below h d1) 4
  have qd1_5 : ∀ W', Below w1.heap.size w1 W' → World.cell? W' ⟨w.heap.size + 1, 5, none⟩ = some (.int .u8 0) := fun W' h => Cells.at_ (Cells.below h d1) 5
  have qd1_6 : ∀ W', Below w1.heap.size w1 W' → World.cell? W' ⟨w.heap.size + 1, 6, none⟩ = some (.int .u32 0) := fun W' h => Cells.at_ (Cells.below h d1) 6
  have qd1_7 : ∀ W', Below w1.heap.size w1 W' → World.cell? W' ⟨w.heap.size + 1, 7, none⟩ = some (.int .u16 0) := fun W' h => Cells.at_ (Cells.below h d1) 7
  have qd1_8 : ∀ W', Below w1.heap.size w1 W' → World.cell? W' ⟨w.heap.size + 1, 8, none⟩ = some (.int .u32 0) := fun W' h => Cells.at_ (Cells.below h d1) 8
  have qd1_9 : ∀ W', Below w1.heap.size w1 W' → World.cell? W' ⟨w.heap.size + 1, 9, none⟩ = some (.int .u16 0) := fun W' h => Cells.at_ (Cells.below h d1) 9
  have qd1_10 : ∀ W', Below w1.heap.size w1 W' → World.cell? W' ⟨w.heap.size + 1, 10, none⟩ = some (.int .i64 0) := fun W' h => Cells.at_ (Cells.below h d1) 10
  have qd1_11 : ∀ W', Below w1.heap.size w1 W' → World.cell? W' ⟨w.heap.size + 1, 11, none⟩ = some (.int .i64 0) := fun W' h => Cells.at_ (Cells.below h d1) 11
  have qd1_12 : ∀ W', Below w1.heap.size w1 W' → World.cell? W' ⟨w.heap.size + 1, 12, none⟩ = some (.slice none 0 0) := fun W' h => Cells.at_ (Cells.below h d1) 12
  have bb : Below w1.heap.size w1 w1 := Below.refl _ _
  have L0 := hide l0; have D0 := hide d0; have D1 := hide d1
  clear l0 d0 d1
  go_upto_region 4 with fail
  clear u0 u1
  have nn := Cells.new w1 #[.int .u32 q.x.si, .int .u16 q.x.sp] 26
  have bn := fresh_below w1 (.cells #[.int .u32 q.x.si, .int .u16 q.x.sp] 26)
  have hg8 : w.heap.size + 1 < w1.heap.size := Cells.lt D1.out
  replace D0 := hide (Cells.below bn D0.out); replace D1 := hide (Cells.below bn D1.out); replace L0 := hide (bstep L0.out bn)
  clear bn bb qd0_0 qd0_1 qd0_2 qd0_3 qd0_4 qd0_5 qd0_6 qd0_7 qd0_8 qd0_9 qd1_0 qd1_1 qd1_2 qd1_3 qd1_4 qd1_5 qd1_6 qd1_7 qd1_8 qd1_9 qd1_10 qd1_11 qd1_12
  generalize w1.heap.size = g8 at nn hg8 ⊢
  generalize (w1.alloc (.cells #[.int .u32 q.x.si, .int .u16 q.x.sp] 26)) = w4 at *
  have D8 := hide nn; have HG8 := hide hg8
  clear nn hg8
  have d0 := D0.out; have d8 := D8.out
  have qd0_0 : ∀ W', Below w4.heap.size w4 W' → World.cell? W' ⟨w.heap.size, 0, none⟩ = some (.int .u8 q.x.p) := fun W' h => Cells.at_ (Cells.below h d0) 0
  have qd0_1 : ∀ W', Below w4.heap.size w4 W' → World.cell? W' ⟨w.heap.size, 1, none⟩ = some (.int .u32 q.x.si) := fun W' h => Cells.at_ (Cells.below h d0) 1
  have qd0_2 : ∀ W', Below w4.heap.size w4 W' → World.cell? W' ⟨w.heap.size, 2, none⟩ = some (.int .u16 q.x.sp) := fun W' h => Cells.at_ (Cells.below h d0) 2
  have qd0_3 : ∀ W', Below w4.heap.size w4 W' → World.cell? W' ⟨w.heap.size, 3, none⟩ = some (.int .u32 q.x.di) := fun W' h => Cells.at_ (Cells.below h d0) 3
  have qd0_4 : ∀ W', Below w4.heap.size w4 W' → World.cell? W' ⟨w.heap.size, 4, none⟩ = some (.int .u16 q.x.dp) := fun W' h => Cells.at_ (Cells.below h d0) 4
  have qd0_5 : ∀ W', Below w4.heap.size w4 W' → World.cell? W' ⟨w.heap.size, 5, none⟩ = some (.int .u32 q.di) := fun W' h => Cells.at_ (Cells.below h d0) 5
  have qd0_6 : ∀ W', Below w4.heap.size w4 W' → World.cell? W' ⟨w.heap.size, 6, none⟩ = some (.int .u16 q.dp) := fun W' h => Cells.at_ (Cells.below h d0) 6
  have qd0_7 : ∀ W', Below w4.heap.size w4 W' → World.cell? W' ⟨w.heap.size, 7, none⟩ = some (.bool false) := fun W' h => Cells.at_ (Cells.below h d0) 7
  have qd0_8 : ∀ W', Below w4.heap.size w4 W' → World.cell? W' ⟨w.heap.size, 8, none⟩ = some (.int .i64 q.st) := fun W' h => Cells.at_ (Cells.below h d0) 8
  have qd0_9 : ∀ W', Below w4.heap.size w4 W' → World.cell? W' ⟨w.heap.size, 9, none⟩ = some (.slice A n c) := fun W' h => Cells.at_ (Cells.below h d0) 9
  have qd8_0 : ∀ W', Below w4.heap.size w4 W' → World.cell? W' ⟨g8, 0, none⟩ = some (.int .u32 q.x.si) := fun W' h => Cells.at_ (Cells.below h d8) 0
  have qd8_1 : ∀ W', Below w4.heap.size w4 W' → World.cell? W' ⟨g8, 1, none⟩ = some (.int .u16 q.x.sp) := fun W' h => Cells.at_ (Cells.below h d8) 1
  have bb : Below w4.heap.size w4 w4 := Below.refl _ _
  go_upto_region 6 with fail
  obtain ⟨w5, hw5⟩ : ∃ w5, w5 = w4 := ⟨_, rfl⟩
  rw [← hw5] at D0 D1 L0 D8
  rw [← hw5]
  clear hw5
  clear d0 d8 bb qd0_0 qd0_1 qd0_2 qd0_3 qd0_4 qd0_5 qd0_6 qd0_7 qd0_8 qd0_9 qd8_0 qd8_1
  have d0x := D0.out; have d8x := D8.out
  have xd0x_0 : w5.cell? ⟨w.heap.size, 0, none⟩ = some (.int .u8 q.x.p) := d0x.at_ 0
  have xd0x_1 : w5.cell? ⟨w.heap.size, 1, none⟩ = some (.int .u32 q.x.si) := d0x.at_ 1
  have xd0x_2 : w5.cell? ⟨w.heap.size, 2, none⟩ = some (.int .u16 q.x.sp) := d0x.at_ 2
  have xd0x_3 : w5.cell? ⟨w.heap.size, 3, none⟩ = some (.int .u32 q.x.di) := d0x.at_ 3
  have xd0x_4 : w5.cell? ⟨w.heap.size, 4, none⟩ = some (.int .u16 q.x.dp) := d0x.at_ 4
  have xd0x_5 : w5.cell? ⟨w.heap.size, 5, none⟩ = some (.int .u32 q.di) := d0x.at_ 5
  have xd0x_6 : w5.cell? ⟨w.heap.size, 6, none⟩ = some (.int .u16 q.dp) := d0x.at_ 6
  have xd0x_7 : w5.cell? ⟨w.heap.size, 7, none⟩ = some (.bool false) := d0x.at_ 7
  have xd0x_8 : w5.cell? ⟨w.heap.size, 8, none⟩ = some (.int .i64 q.st) := d0x.at_ 8
  have xd0x_9 : w5.cell? ⟨w.heap.size, 9, none⟩ = some (.slice A n c) := d0x.at_ 9
  have xd8x_0 : w5.cell? ⟨g8, 0, none⟩ = some (.int .u32 q.x.si) := d8x.at_ 0
  have xd8x_1 : w5.cell? ⟨g8, 1, none⟩ = some (.int .u16 q.x.sp) := d8x.at_ 1
  clear d0x d8x
  go_upto_region 6 with fail
  refine wp_region_lit ?_
  refine wpList_plain rfl fun K hK => ?_; go_simp; refine hK _ _ ?_; clear hK K
  refine wpList_plain rfl fun K hK => ?_; go_simp; refine hK _ _ ?_; clear hK K
  refine wpList_plain rfl fun K hK => ?_; go_simp; refine hK _ _ ?_; clear hK K
  refine wpList_plain rfl fun K hK => ?_; go_simp; refine hK _ _ ?_; clear hK K
  refine wpList_plain rfl fun K hK => ?_; go_simp; refine hK _ _ ?_; clear hK K
  refine wpList_plain rfl fun K hK => ?_; go_simp; refine hK _ _ ?_; clear hK K
  refine wpList_plain rfl fun K hK => ?_; go_simp; refine hK _ _ ?_; clear hK K
  refine wpList_plain rfl fun K hK => ?_; go_simp; refine hK _ _ ?_; clear hK K
  refine wpList_plain rfl fun K hK => ?_; go_simp; refine hK _ _ ?_; clear hK K
  refine wpList_plain rfl fun K hK => ?_; go_simp; refine hK _ _ ?_; clear hK K
  refine wpList_plain rfl fun K hK => ?_; go_simp; refine hK _ _ ?_; clear hK K
  refine wpList_plain rfl fun K hK => ?_; go_simp; refine hK _ _ ?_; clear hK K
  refine wpList_plain rfl fun K hK => ?_; go_simp; refine hK _ _ ?_; clear hK K
  refine wpList_store_all rfl 45 (.tmp 9) (.tmp 52) rfl (c' := #[.int .u8 q.x.p, .int .u32 q.x.si, .int .u16 q.x.sp, .int .u32 q.x.di, .int .u16 q.x.dp, .int .u8 q.x.p, .int .u32 q.di, .int .u16 q.dp, .int .u32 q.x.si, .int .u16 q.x.sp, .int .i64 q.st, .int .i64 0, .slice none 0 0]) (Cells.new _ _ _) (by rfl) (by rfl) (by kernel_rfl) rfl (by simp [Value.oneCell']) ?_
  intro w6 r6 o6 z6
  have bn : Below w5.heap.size w5 w6 := by
    refine Only.below (X := fun i => i = w5.heap.size) ?_ (fun k e => by omega) (Nat.le_refl _)
    exact Only.join (X := fun i => i = w5.heap.size) (Only.of_below (fresh_below _ _) (Nat.le_refl _)) o6 (fun i hi e => e)
  have hg9 : g8 < w5.heap.size := Cells.lt D8.out
  replace D0 := hide (Cells.below bn D0.out); replace D1 := hide (Cells.below bn D1.out); replace L0 := hide (bstep L0.out bn)
  clear xd0x_0 xd0x_1 xd0x_2 xd0x_3 xd0x_4 xd0x_5 xd0x_6 xd0x_7 xd0x_8 xd0x_9 xd8x_0 xd8x_1 D8 bn o6 z6
  generalize w5.heap.size = g9 at r6 hg9 ⊢
  have GR0 := hide (Grow.start (K := holdK) (f := fun v => #[.int .u8 q.x.p, .int .u32 q.x.si, .int .u16 q.x.sp, .int .u32 q.x.di, .int .u16 q.x.dp, .int .u8 q.x.p, .int .u32 q.di, .int .u16 q.dp, .int .u32 q.x.si, .int .u16 q.x.sp, .int .i64 q.st, .int .i64 0, v]) r6); have HG9 := hide hg9
  clear r6 hg9 w5
  have d0 := D0.out
  have xd0_0 : w6.cell? ⟨w.heap.size, 0, none⟩ = some (.int .u8 q.x.p) := d0.at_ 0
  have xd0_1 : w6.cell? ⟨w.heap.size, 1, none⟩ = some (.int .u32 q.x.si) := d0.at_ 1
  have xd0_2 : w6.cell? ⟨w.heap.size, 2, none⟩ = some (.int .u16 q.x.sp) := d0.at_ 2
  have xd0_3 : w6.cell? ⟨w.heap.size, 3, none⟩ = some (.int .u32 q.x.di) := d0.at_ 3
  have xd0_4 : w6.cell? ⟨w.heap.size, 4, none⟩ = some (.int .u16 q.x.dp) := d0.at_ 4
  have xd0_5 : w6.cell? ⟨w.heap.size, 5, none⟩ = some (.int .u32 q.di) := d0.at_ 5
  have xd0_6 : w6.cell? ⟨w.heap.size, 6, none⟩ = some (.int .u16 q.dp) := d0.at_ 6
  have xd0_7 : w6.cell? ⟨w.heap.size, 7, none⟩ = some (.bool false) := d0.at_ 7
  have xd0_8 : w6.cell? ⟨w.heap.size, 8, none⟩ = some (.int .i64 q.st) := d0.at_ 8
  have xd0_9 : w6.cell? ⟨w.heap.size, 9, none⟩ = some (.slice A n c) := d0.at_ 9
  clear d0
  go_wp2_with fail
  clear xd0_0 xd0_1 xd0_2 xd0_3 xd0_4 xd0_5 xd0_6 xd0_7 xd0_8 xd0_9
  go_loopg [10, 11, 56] n (fun gg _ _ s56 wr => ∃ kk : Nat, kk ≤ n ∧ n - kk ≤ gg ∧ s56 = .int .i64 kk ∧ Aside (∃ V, Grow holdK w6 g9 (fun v => #[.int .u8 q.x.p, .int .u32 q.x.si, .int .u16 q.x.sp, .int .u32 q.x.di, .int .u16 q.x.dp, .int .u8 q.x.p, .int .u32 q.di, .int .u16 q.dp, .int .u32 q.x.si, .int .u16 q.x.sp, .int .i64 q.st, .int .i64 0, v]) 45 (holdsL (q.ws.take kk) (os.take kk)) V wr) ∧ Aside (fitsL (q.ws.take kk) (os.take kk) = true))
  case atStart => exact ⟨0, Nat.zero_le _, by omega, rfl, (show Aside _ from ⟨_, GR0.out⟩), (show Aside _ from rfl)⟩
  case round =>
    clear GR0
    obtain ⟨kk, hkk, hg, rfl, GG, FT⟩ := hrel
    obtain ⟨V, gr⟩ := GG.out
    clear GG
    have hg9 := HG9.out; have hg8 := HG8.out
    have k0 : Cells wr w.heap.size #[.int .u8 q.x.p, .int .u32 q.x.si, .int .u16 q.x.sp, .int .u32 q.x.di, .int .u16 q.x.dp, .int .u32 q.di, .int .u16 q.dp, .bool false, .int .i64 q.st, .slice A n c] 31 := (gr.b.block w.heap.size (by omega)).trans D0.out
    have k1 : Cells wr (w.heap.size + 1) #[.int .u8 0, .int .u32 0, .int .u16 0, .int .u32 0, .int .u16 0, .int .u8 0, .int .u32 0, .int .u16 0, .int .u32 0, .int .u16 0, .int .i64 0, .int .i64 0, .slice none 0 0] 45 := (gr.b.block (w.heap.size + 1) (by omega)).trans D1.out
    have lw : Below w.heap.size w wr := L0.out.trans (gr.b.mono (by omega))
    have kg := gr.c
    by_cases hlt : kk < n
    · have hltz : (kk : Int) < (n : Int) := by omega
      have hl : kk < q.ws.length := by have := HN.out; omega
      have hlo : kk < os.length := by have := HNO.out; omega
      obtain ⟨F, hF⟩ : ∃ F : Nat → Prop, F = fun j => V.ownBlock = some j := ⟨_, rfl⟩
      have hFg : ∀ j, F j → g9 < j := fun j e => gr.up j (by rw [hF] at e; exact e)
      obtain ⟨g, o, hAe, hg0, hrow0⟩ := HA.out.at_ hl
      obtain ⟨gp, op, hOe, hgp0, hrowp0⟩ := HO.out.at_ hlo
      obtain ⟨r, hr⟩ : ∃ r, r = q.ws[kk] := ⟨_, rfl⟩
      obtain ⟨t, ht⟩ : ∃ t, t = os[kk] := ⟨_, rfl⟩
      rw [← hr] at hrow0
      rw [← ht] at hrowp0
      have HR := hide hr; have HTT := hide ht
      clear hr ht
      subst hAe
      subst hOe
      have bw0 : Below wr.heap.size wr wr := Below.refl _ _
      have z0 : ∀ W', Below wr.heap.size wr W' → World.cell? W' ⟨g, o + kk * 8, none⟩ = some (.bool r.fx) := fun W' hW => hrow0 0 _ rfl W' (bstep lw hW)
      have z1 : ∀ W', Below wr.heap.size wr W' → World.cell? W' ⟨g, o + kk * 8 + 1, none⟩ = some (.int .u32 r.ii) := fun W' hW => hrow0 1 _ rfl W' (bstep lw hW)
      have z2 : ∀ W', Below wr.heap.size wr W' → World.cell? W' ⟨g, o + kk * 8 + 2, none⟩ = some (.int .u16 r.ip) := fun W' hW => hrow0 2 _ rfl W' (bstep lw hW)
      have z3 : ∀ W', Below wr.heap.size wr W' → World.cell? W' ⟨g, o + kk * 8 + 3, none⟩ = some (.int .u32 r.oi) := fun W' hW => hrow0 3 _ rfl W' (bstep lw hW)
      have z4 : ∀ W', Below wr.heap.size wr W' → World.cell? W' ⟨g, o + kk * 8 + 4, none⟩ = some (.int .u16 r.op) := fun W' hW => hrow0 4 _ rfl W' (bstep lw hW)
      have z5 : ∀ W', Below wr.heap.size wr W' → World.cell? W' ⟨g, o + kk * 8 + 5, none⟩ = some (.int .u32 r.a) := fun W' hW => hrow0 5 _ rfl W' (bstep lw hW)
      have z6 : ∀ W', Below wr.heap.size wr W' → World.cell? W' ⟨g, o + kk * 8 + 6, none⟩ = some (.int .u16 r.f) := fun W' hW => hrow0 6 _ rfl W' (bstep lw hW)
      have z7 : ∀ W', Below wr.heap.size wr W' → World.cell? W' ⟨g, o + kk * 8 + 7, none⟩ = some (.int .u16 r.t) := fun W' hW => hrow0 7 _ rfl W' (bstep lw hW)
      go_upto_region 10 with fail
      have nn := Cells.new wr #[.bool r.fx, .int .u32 r.ii, .int .u16 r.ip, .int .u32 r.oi, .int .u16 r.op, .int .u32 r.a, .int .u16 r.f, .int .u16 r.t] 40
      have bn := fresh_below wr (.cells #[.bool r.fx, .int .u32 r.ii, .int .u16 r.ip, .int .u32 r.oi, .int .u16 r.op, .int .u32 r.a, .int .u16 r.f, .int .u16 r.t] 40)
      clear bw0 z0 z1 z2 z3 z4 z5 z6 z7
      obtain ⟨g11, hg11⟩ : ∃ g11, g11 = wr.heap.size := ⟨_, rfl⟩
      rw [← hg11] at nn ⊢
      have HG11 := hide hg11
      clear hg11
      generalize (wr.alloc (.cells #[.bool r.fx, .int .u32 r.ii, .int .u16 r.ip, .int .u32 r.oi, .int .u16 r.op, .int .u32 r.a, .int .u16 r.f, .int .u16 r.t] 40)) = w5 at *
      have lw5 := bstep lw bn
      have hFs : ∀ j, F j → j < wr.heap.size := fun j e => gr.own.row (by rw [hF] at e; exact e)
      have hgF : ¬ F g := fun e => by have := hFg g e; omega
      have hgpF : ¬ F gp := fun e => by have := hFg gp e; omega
      have hrowp : ∀ W', Only F w5 W' → ∀ j u, (pointK.cells t).toList[j]? = some u → W'.cell? ⟨gp, op + kk * 2 + j, none⟩ = some u := fun W' hW j u hu => (World.cell?_of_block (hW.block gp (Nat.lt_of_lt_of_le hgp0 lw5.size) hgpF)).trans (hrowp0 j u hu w5 lw5)
      have p0 : ∀ W', Only F w5 W' → World.cell? W' ⟨gp, op + kk * 2, none⟩ = some (.int .u32 t.a) := fun W' hW => hrowp W' hW 0 _ rfl
      have p1 : ∀ W', Only F w5 W' → World.cell? W' ⟨gp, op + kk * 2 + 1, none⟩ = some (.int .u16 t.p) := fun W' hW => hrowp W' hW 1 _ rfl
      have q9 : ∀ W', Only F w5 W' → World.cell? W' ⟨g9, 12, none⟩ = some V := fun W' hW => (Cells.only (Cells.below bn kg) hW (fun e => by have := hFg _ e; omega)).at_ 12
      have f9 : ∀ W', Only F w5 W' → World.frozen? W' ⟨g9, 12, none⟩ = false := fun W' hW => (Cells.only (Cells.below bn kg) hW (fun e => by have := hFg _ e; omega)).free 12
      have q11_0 : ∀ W', Only F w5 W' → World.cell? W' ⟨g11, 0, none⟩ = some (.bool r.fx) := fun W' hW => (Cells.only nn hW (fun e => by have := hFs _ e; have := HG11.out; omega)).at_ 0
      have q11_1 : ∀ W', Only F w5 W' → World.cell? W' ⟨g11, 1, none⟩ = some (.int .u32 r.ii) := fun W' hW => (Cells.only nn hW (fun e => by have := hFs _ e; have := HG11.out; omega)).at_ 1
      have q11_2 : ∀ W', Only F w5 W' → World.cell? W' ⟨g11, 2, none⟩ = some (.int .u16 r.ip) := fun W' hW => (Cells.only nn hW (fun e => by have := hFs _ e; have := HG11.out; omega)).at_ 2
      have q11_3 : ∀ W', Only F w5 W' → World.cell? W' ⟨g11, 3, none⟩ = some (.int .u32 r.oi) := fun W' hW => (Cells.only nn hW (fun e => by have := hFs _ e; have := HG11.out; omega)).at_ 3
      have q11_4 : ∀ W', Only F w5 W' → World.cell? W' ⟨g11, 4, none⟩ = some (.int .u16 r.op) := fun W' hW => (Cells.only nn hW (fun e => by have := hFs _ e; have := HG11.out; omega)).at_ 4
      have q11_5 : ∀ W', Only F w5 W' → World.cell? W' ⟨g11, 5, none⟩ = some (.int .u32 r.a) := fun W' hW => (Cells.only nn hW (fun e => by have := hFs _ e; have := HG11.out; omega)).at_ 5
      have q11_6 : ∀ W', Only F w5 W' → World.cell? W' ⟨g11, 6, none⟩ = some (.int .u16 r.f) := fun W' hW => (Cells.only nn hW (fun e => by have := hFs _ e; have := HG11.out; omega)).at_ 6
      have q11_7 : ∀ W', Only F w5 W' → World.cell? W' ⟨g11, 7, none⟩ = some (.int .u16 r.t) := fun W' hW => (Cells.only nn hW (fun e => by have := hFs _ e; have := HG11.out; omega)).at_ 7
      have bb : Only F w5 w5 := Only.refl _ _
      have GR := hide gr; have LW5 := hide lw5; have HFE := hide hF; have BN := hide bn; have K1 := hide (Cells.below bn k1)
      have hF1 : ¬ F (w.heap.size + 1) := fun e => by have := hFg _ e; omega
      have HF1 := hide hF1
      have HF2 := hide (fun j (e : F j) => (show w.heap.size ≤ j by have := hFg j e; omega))
      have hkw : IntKind.i64.wrap ((kk : Int) + 1) = ((kk + 1 : Nat) : Int) := by rw [IntWalk.i64_in _ (by omega)]; omega
      have HLN := hide (show (holdsL (q.ws.take kk) (os.take kk) ++ [holdOf r t]).length = kk + 1 by rw [List.length_append, holdsL_len _ _ (by simp; omega), List.length_take, List.length_cons, List.length_nil]; omega)
      have hdk : decide ((kk : Int) < 0) = false := by rw [decide_eq_false_iff_not]; omega
      have cf := fun W => b_Fits W r t.a t.p
      obtain ⟨fv, hfv⟩ : ∃ fv, fitsV r t.a t.p = fv := ⟨_, rfl⟩
      rw [hfv] at cf
      have CF := hide cf; have HFV := hide hfv
      clear cf hfv gr lw lw5 hF hrow0 hrowp0 hrowp k0 k1 kg hFg hFs hgF hgpF bn nn hF1
      have s10 : Only F w5 w5.drew := Only.drew bb
      cases fv
      · skip
        focus
          refine wp_region_J [] (fun W => Only F w5 W) (by kernel_rfl) (s10) (fun hS0 => ?_)
          obtain ⟨hG, hsel⟩ := okOps (md := .any) (ops := #[{ dst := some 61 , op := Go.Op.load 40 ( Go.Operand.tmp 11 ) , type := 40 , pos := "binds.go:134" , after := #[ ] , guard := none }, { dst := some 62 , op := Go.Op.move ( Go.Operand.tmp 1 ) , type := 32 , pos := "binds.go:134" , after := #[ ] , guard := none }, { dst := some 63 , op := Go.Op.move ( Go.Operand.tmp 10 ) , type := 3 , pos := "binds.go:134" , after := #[ ] , guard := none }, { dst := some 64 , op := Go.Op.indexAddr 32 ( Go.Operand.tmp 62 ) ( Go.Operand.tmp 63 ) , type := 0 , pos := "binds.go:134" , after := #[ { on := 1 , ground := Go.Ground.data } , { on := 2 , ground := Go.Ground.data } ] , guard := none }, { dst := some 65 , op := Go.Op.load 26 ( Go.Operand.tmp 64 ) , type := 26 , pos := "binds.go:134" , after := #[ { on := 3 , ground := Go.Ground.data } ] , guard := none }, { dst := some 66 , op := Go.Op.call { callee := Go.Callee.value ( Go.Operand.func 6 ) , args := #[ Go.Operand.tmp 61 , Go.Operand.tmp 65 ] , argTypes := #[ 40 , 26 ] } , type := 4 , pos := "binds.go:134" , after := #[ { on := 0 , ground := Go.Ground.data } , { on := 4 , ground := Go.Ground.data } ] , guard := none }, { dst := some 67 , op := Go.Op.unOp Go.UnOp.not 4 ( Go.Operand.tmp 66 ) , type := 4 , pos := "binds.go:134" , after := #[ { on := 5 , ground := Go.Ground.data } ] , guard := none }]) (by kernel_rfl)
          refine wpAnyJ_takeG (i := 0) (oi := { dst := some 61 , op := Go.Op.load 40 ( Go.Operand.tmp 11 ) , type := 40 , pos := "binds.go:134" , after := #[ ] , guard := none }) (v := ?v0_1) hG hsel (by kernel_rfl) (by kernel_rfl) (by kernel_rfl) (by kernel_rfl) (fun _ _ _ h => h) (Or.inl (And.intro (by kernel_rfl) ?q0_1)) hS0 ?r0_1
          case q0_1 => intro w hx; refine run_env [11] [?a0_1_11] (by kernel_rfl) (by kernel_rfl) (⟨?e0_1_11, trivial⟩) ?h0_1; (case e0_1_11 => ((conv => lhs; whnf); (try exact rfl))); (case h0_1 => ((try dsimp only); (try simp only [envL, lookV, if_true, if_false]); (try go_simp); (try with_reducible rfl)))
          (try simp only [Act.put, List.setIfInBounds_toArray, List.set_cons_zero, List.set_cons_succ, List.getElem_toArray, List.getElem_cons_succ, List.getElem_cons_zero])
          refine wpAnyJ_takeG (i := 1) (oi := { dst := some 62 , op := Go.Op.move ( Go.Operand.tmp 1 ) , type := 32 , pos := "binds.go:134" , after := #[ ] , guard := none }) (v := ?v1_2) hG hsel (by kernel_rfl) (by kernel_rfl) (by kernel_rfl) (by kernel_rfl) (fun _ _ _ h => h) (Or.inl (And.intro (by kernel_rfl) ?q1_2)) hS0 ?r1_2
          case q1_2 => intro w hx; refine run_env [1] [?a1_2_1] (by kernel_rfl) (by kernel_rfl) (⟨?e1_2_1, trivial⟩) ?h1_2; (case e1_2_1 => ((conv => lhs; whnf); (try exact rfl))); (case h1_2 => ((try dsimp only); (try simp only [envL, lookV, if_true, if_false]); (try go_simp); (try with_reducible rfl)))
          (try simp only [Act.put, List.setIfInBounds_toArray, List.set_cons_zero, List.set_cons_succ, List.getElem_toArray, List.getElem_cons_succ, List.getElem_cons_zero])
          refine wpAnyJ_takeG (i := 2) (oi := { dst := some 63 , op := Go.Op.move ( Go.Operand.tmp 10 ) , type := 3 , pos := "binds.go:134" , after := #[ ] , guard := none }) (v := ?v2_3) hG hsel (by kernel_rfl) (by kernel_rfl) (by kernel_rfl) (by kernel_rfl) (fun _ _ _ h => h) (Or.inl (And.intro (by kernel_rfl) ?q2_3)) hS0 ?r2_3
          case q2_3 => intro w hx; refine run_env [10] [?a2_3_10] (by kernel_rfl) (by kernel_rfl) (⟨?e2_3_10, trivial⟩) ?h2_3; (case e2_3_10 => ((conv => lhs; whnf); (try exact rfl))); (case h2_3 => ((try dsimp only); (try simp only [envL, lookV, if_true, if_false]); (try go_simp); (try with_reducible rfl)))
          (try simp only [Act.put, List.setIfInBounds_toArray, List.set_cons_zero, List.set_cons_succ, List.getElem_toArray, List.getElem_cons_succ, List.getElem_cons_zero])
          refine wpAnyJ_takeG (i := 3) (oi := { dst := some 64 , op := Go.Op.indexAddr 32 ( Go.Operand.tmp 62 ) ( Go.Operand.tmp 63 ) , type := 0 , pos := "binds.go:134" , after := #[ { on := 1 , ground := Go.Ground.data } , { on := 2 , ground := Go.Ground.data } ] , guard := none }) (v := ?v3_4) hG hsel (by kernel_rfl) (by kernel_rfl) (by kernel_rfl) (by kernel_rfl) (fun _ _ _ h => h) (Or.inl (And.intro (by kernel_rfl) ?q3_4)) hS0 ?r3_4
          case q3_4 => intro w hx; refine run_env [62, 63] [?a3_4_62, ?a3_4_63] (by kernel_rfl) (by kernel_rfl) (⟨?e3_4_62, ?e3_4_63, trivial⟩) ?h3_4; (case e3_4_62 => ((conv => lhs; whnf); (try exact rfl))); (case e3_4_63 => ((conv => lhs; whnf); (try exact rfl))); (case h3_4 => ((try dsimp only); (try simp only [envL, lookV, if_true, if_false]); (try go_simp); (try with_reducible rfl)))
          (try simp only [Act.put, List.setIfInBounds_toArray, List.set_cons_zero, List.set_cons_succ, List.getElem_toArray, List.getElem_cons_succ, List.getElem_cons_zero])
          refine wpAnyJ_takeG (i := 4) (oi := { dst := some 65 , op := Go.Op.load 26 ( Go.Operand.tmp 64 ) , type := 26 , pos := "binds.go:134" , after := #[ { on := 3 , ground := Go.Ground.data } ] , guard := none }) (v := ?v4_5) hG hsel (by kernel_rfl) (by kernel_rfl) (by kernel_rfl) (by kernel_rfl) (fun _ _ _ h => h) (Or.inl (And.intro (by kernel_rfl) ?q4_5)) hS0 ?r4_5
          case q4_5 => intro w hx; refine run_env [64] [?a4_5_64] (by kernel_rfl) (by kernel_rfl) (⟨?e4_5_64, trivial⟩) ?h4_5; (case e4_5_64 => ((conv => lhs; whnf); (try exact rfl))); (case h4_5 => ((try dsimp only); (try simp only [envL, lookV, if_true, if_false]); (try go_simp); (try with_reducible rfl)))
          (try simp only [Act.put, List.setIfInBounds_toArray, List.set_cons_zero, List.set_cons_succ, List.getElem_toArray, List.getElem_cons_succ, List.getElem_cons_zero])
          refine wpAnyJ_ready (rs := [5]) (by kernel_rfl) (by simp) ?_
          refine (AllReadyJ.cons rfl (fun K hK => ?_) AllReadyJ.nil)
          rw [if_pos (by kernel_rfl)]
          (try simp only [List.getElem_toArray, List.getElem_cons_succ, List.getElem_cons_zero])
          (focus go_simp)
          (focus ((with_reducible refine (CF.out _).mono ?_); rintro e wq5 ⟨rfl, bq5⟩; have sq := Only.then hS0 bq5))
          (focus (try go_wp2_with fail))
          refine hK.out _ _ ?hs (fun hS0 => ?_)
          case hs => (first | with_reducible exact hS0 | with_reducible exact sq | exact Only.then hS0 (fresh_below _ _))
          clear hK K
          (try simp only [Act.put, List.setIfInBounds_toArray, List.set_cons_zero, List.set_cons_succ, List.getElem_toArray, List.getElem_cons_succ, List.getElem_cons_zero])
          refine wpAnyJ_takeG (i := 6) (oi := { dst := some 67 , op := Go.Op.unOp Go.UnOp.not 4 ( Go.Operand.tmp 66 ) , type := 4 , pos := "binds.go:134" , after := #[ { on := 5 , ground := Go.Ground.data } ] , guard := none }) (v := ?v6_6) hG hsel (by kernel_rfl) (by kernel_rfl) (by kernel_rfl) (by kernel_rfl) (fun _ _ _ h => h) (Or.inl (And.intro (by kernel_rfl) ?q6_6)) hS0 ?r6_6
          case q6_6 => intro w hx; refine run_env [66] [?a6_6_66] (by kernel_rfl) (by kernel_rfl) (⟨?e6_6_66, trivial⟩) ?h6_6; (case e6_6_66 => ((conv => lhs; whnf); (try exact rfl))); (case h6_6 => ((try dsimp only); (try simp only [envL, lookV, if_true, if_false]); (try go_simp); (try with_reducible rfl)))
          (try simp only [Act.put, List.setIfInBounds_toArray, List.set_cons_zero, List.set_cons_succ, List.getElem_toArray, List.getElem_cons_succ, List.getElem_cons_zero])
          refine wpAnyJ_done (by kernel_rfl) ?_ _
        have HZ := hide (Cells.only K1.out sq HF1.out); have LW := hide (LW5.out.trans (sq.below HF2.out LW5.out.size))
        clear s10 bb hS0 sq bq5 p0 p1 q9 f9 q11_0 q11_1 q11_2 q11_3 q11_4 q11_5 q11_6 q11_7
        have er : RV = (zeroE, 2) := by rw [HRV.out, if_pos (by rw [fitsL_no hl hlo (by rw [← HR.out, ← HTT.out]; exact HFV.out)])]
        clear HRV
        subst er
        go_upto_region 11 with fail
        refine wp_region_lit ?_
        refine wpList_plain rfl fun K hK => ?_; go_simp; refine hK _ _ ?_; clear hK K
        refine wpList_store_all rfl 45 (.tmp 6) (.tmp 68) rfl HZ.out (by rfl) (by rfl) (by kernel_rfl) rfl (by simp [Value.oneCell']) ?_
        intro W5 r5 o5 z5
        go_wp2_with fail
        (try simp only [Exit.inBlock, Exit.then])
        refine bodyPost_ret (res_cell_tmp Tryd.results8 r5 (by rfl) (by rfl) _ Tryd.underlying45 rfl (by kernel_rfl)) rfl ?_
        exact ⟨.slice none 0 0, rfl, RowK.Own.nil _, (fun g e => by cases e), LW.out.trans (o5.below (fun j e => by omega) LW.out.size)⟩
      · skip
        focus
          refine wp_region_J [] (fun W => Only F w5 W) (by kernel_rfl) (s10) (fun hS0 => ?_)
          obtain ⟨hG, hsel⟩ := okOps (md := .any) (ops := #[{ dst := some 61 , op := Go.Op.load 40 ( Go.Operand.tmp 11 ) , type := 40 , pos := "binds.go:134" , after := #[ ] , guard := none }, { dst := some 62 , op := Go.Op.move ( Go.Operand.tmp 1 ) , type := 32 , pos := "binds.go:134" , after := #[ ] , guard := none }, { dst := some 63 , op := Go.Op.move ( Go.Operand.tmp 10 ) , type := 3 , pos := "binds.go:134" , after := #[ ] , guard := none }, { dst := some 64 , op := Go.Op.indexAddr 32 ( Go.Operand.tmp 62 ) ( Go.Operand.tmp 63 ) , type := 0 , pos := "binds.go:134" , after := #[ { on := 1 , ground := Go.Ground.data } , { on := 2 , ground := Go.Ground.data } ] , guard := none }, { dst := some 65 , op := Go.Op.load 26 ( Go.Operand.tmp 64 ) , type := 26 , pos := "binds.go:134" , after := #[ { on := 3 , ground := Go.Ground.data } ] , guard := none }, { dst := some 66 , op := Go.Op.call { callee := Go.Callee.value ( Go.Operand.func 6 ) , args := #[ Go.Operand.tmp 61 , Go.Operand.tmp 65 ] , argTypes := #[ 40 , 26 ] } , type := 4 , pos := "binds.go:134" , after := #[ { on := 0 , ground := Go.Ground.data } , { on := 4 , ground := Go.Ground.data } ] , guard := none }, { dst := some 67 , op := Go.Op.unOp Go.UnOp.not 4 ( Go.Operand.tmp 66 ) , type := 4 , pos := "binds.go:134" , after := #[ { on := 5 , ground := Go.Ground.data } ] , guard := none }]) (by kernel_rfl)
          refine wpAnyJ_takeG (i := 0) (oi := { dst := some 61 , op := Go.Op.load 40 ( Go.Operand.tmp 11 ) , type := 40 , pos := "binds.go:134" , after := #[ ] , guard := none }) (v := ?v0_7) hG hsel (by kernel_rfl) (by kernel_rfl) (by kernel_rfl) (by kernel_rfl) (fun _ _ _ h => h) (Or.inl (And.intro (by kernel_rfl) ?q0_7)) hS0 ?r0_7
          case q0_7 => intro w hx; refine run_env [11] [?a0_7_11] (by kernel_rfl) (by kernel_rfl) (⟨?e0_7_11, trivial⟩) ?h0_7; (case e0_7_11 => ((conv => lhs; whnf); (try exact rfl))); (case h0_7 => ((try dsimp only); (try simp only [envL, lookV, if_true, if_false]); (try go_simp); (try with_reducible rfl)))
          (try simp only [Act.put, List.setIfInBounds_toArray, List.set_cons_zero, List.set_cons_succ, List.getElem_toArray, List.getElem_cons_succ, List.getElem_cons_zero])
          refine wpAnyJ_takeG (i := 1) (oi := { dst := some 62 , op := Go.Op.move ( Go.Operand.tmp 1 ) , type := 32 , pos := "binds.go:134" , after := #[ ] , guard := none }) (v := ?v1_8) hG hsel (by kernel_rfl) (by kernel_rfl) (by kernel_rfl) (by kernel_rfl) (fun _ _ _ h => h) (Or.inl (And.intro (by kernel_rfl) ?q1_8)) hS0 ?r1_8
          case q1_8 => intro w hx; refine run_env [1] [?a1_8_1] (by kernel_rfl) (by kernel_rfl) (⟨?e1_8_1, trivial⟩) ?h1_8; (case e1_8_1 => ((conv => lhs; whnf); (try exact rfl))); (case h1_8 => ((try dsimp only); (try simp only [envL, lookV, if_true, if_false]); (try go_simp); (try with_reducible rfl)))
          (try simp only [Act.put, List.setIfInBounds_toArray, List.set_cons_zero, List.set_cons_succ, List.getElem_toArray, List.getElem_cons_succ, List.getElem_cons_zero])
          refine wpAnyJ_takeG (i := 2) (oi := { dst := some 63 , op := Go.Op.move ( Go.Operand.tmp 10 ) , type := 3 , pos := "binds.go:134" , after := #[ ] , guard := none }) (v := ?v2_9) hG hsel (by kernel_rfl) (by kernel_rfl) (by kernel_rfl) (by kernel_rfl) (fun _ _ _ h => h) (Or.inl (And.intro (by kernel_rfl) ?q2_9)) hS0 ?r2_9
          case q2_9 => intro w hx; refine run_env [10] [?a2_9_10] (by kernel_rfl) (by kernel_rfl) (⟨?e2_9_10, trivial⟩) ?h2_9; (case e2_9_10 => ((conv => lhs; whnf); (try exact rfl))); (case h2_9 => ((try dsimp only); (try simp only [envL, lookV, if_true, if_false]); (try go_simp); (try with_reducible rfl)))
          (try simp only [Act.put, List.setIfInBounds_toArray, List.set_cons_zero, List.set_cons_succ, List.getElem_toArray, List.getElem_cons_succ, List.getElem_cons_zero])
          refine wpAnyJ_takeG (i := 3) (oi := { dst := some 64 , op := Go.Op.indexAddr 32 ( Go.Operand.tmp 62 ) ( Go.Operand.tmp 63 ) , type := 0 , pos := "binds.go:134" , after := #[ { on := 1 , ground := Go.Ground.data } , { on := 2 , ground := Go.Ground.data } ] , guard := none }) (v := ?v3_10) hG hsel (by kernel_rfl) (by kernel_rfl) (by kernel_rfl) (by kernel_rfl) (fun _ _ _ h => h) (Or.inl (And.intro (by kernel_rfl) ?q3_10)) hS0 ?r3_10
          case q3_10 => intro w hx; refine run_env [62, 63] [?a3_10_62, ?a3_10_63] (by kernel_rfl) (by kernel_rfl) (⟨?e3_10_62, ?e3_10_63, trivial⟩) ?h3_10; (case e3_10_62 => ((conv => lhs; whnf); (try exact rfl))); (case e3_10_63 => ((conv => lhs; whnf); (try exact rfl))); (case h3_10 => ((try dsimp only); (try simp only [envL, lookV, if_true, if_false]); (try go_simp); (try with_reducible rfl)))
          (try simp only [Act.put, List.setIfInBounds_toArray, List.set_cons_zero, List.set_cons_succ, List.getElem_toArray, List.getElem_cons_succ, List.getElem_cons_zero])
          refine wpAnyJ_takeG (i := 4) (oi := { dst := some 65 , op := Go.Op.load 26 ( Go.Operand.tmp 64 ) , type := 26 , pos := "binds.go:134" , after := #[ { on := 3 , ground := Go.Ground.data } ] , guard := none }) (v := ?v4_11) hG hsel (by kernel_rfl) (by kernel_rfl) (by kernel_rfl) (by kernel_rfl) (fun _ _ _ h => h) (Or.inl (And.intro (by kernel_rfl) ?q4_11)) hS0 ?r4_11
          case q4_11 => intro w hx; refine run_env [64] [?a4_11_64] (by kernel_rfl) (by kernel_rfl) (⟨?e4_11_64, trivial⟩) ?h4_11; (case e4_11_64 => ((conv => lhs; whnf); (try exact rfl))); (case h4_11 => ((try dsimp only); (try simp only [envL, lookV, if_true, if_false]); (try go_simp); (try with_reducible rfl)))
          (try simp only [Act.put, List.setIfInBounds_toArray, List.set_cons_zero, List.set_cons_succ, List.getElem_toArray, List.getElem_cons_succ, List.getElem_cons_zero])
          refine wpAnyJ_ready (rs := [5]) (by kernel_rfl) (by simp) ?_
          refine (AllReadyJ.cons rfl (fun K hK => ?_) AllReadyJ.nil)
          rw [if_pos (by kernel_rfl)]
          (try simp only [List.getElem_toArray, List.getElem_cons_succ, List.getElem_cons_zero])
          (focus go_simp)
          (focus ((with_reducible refine (CF.out _).mono ?_); rintro e wq5 ⟨rfl, bq5⟩; have sq := Only.then hS0 bq5))
          (focus (try go_wp2_with fail))
          refine hK.out _ _ ?hs (fun hS0 => ?_)
          case hs => (first | with_reducible exact hS0 | with_reducible exact sq | exact Only.then hS0 (fresh_below _ _))
          clear hK K
          (try simp only [Act.put, List.setIfInBounds_toArray, List.set_cons_zero, List.set_cons_succ, List.getElem_toArray, List.getElem_cons_succ, List.getElem_cons_zero])
          refine wpAnyJ_takeG (i := 6) (oi := { dst := some 67 , op := Go.Op.unOp Go.UnOp.not 4 ( Go.Operand.tmp 66 ) , type := 4 , pos := "binds.go:134" , after := #[ { on := 5 , ground := Go.Ground.data } ] , guard := none }) (v := ?v6_12) hG hsel (by kernel_rfl) (by kernel_rfl) (by kernel_rfl) (by kernel_rfl) (fun _ _ _ h => h) (Or.inl (And.intro (by kernel_rfl) ?q6_12)) hS0 ?r6_12
          case q6_12 => intro w hx; refine run_env [66] [?a6_12_66] (by kernel_rfl) (by kernel_rfl) (⟨?e6_12_66, trivial⟩) ?h6_12; (case e6_12_66 => ((conv => lhs; whnf); (try exact rfl))); (case h6_12 => ((try dsimp only); (try simp only [envL, lookV, if_true, if_false]); (try go_simp); (try with_reducible rfl)))
          (try simp only [Act.put, List.setIfInBounds_toArray, List.set_cons_zero, List.set_cons_succ, List.getElem_toArray, List.getElem_cons_succ, List.getElem_cons_zero])
          refine wpAnyJ_done (by kernel_rfl) ?_ _
        have OWN := hide (RowK.Own.below GR.out.own (bstep (Below.drew BN.out) bq5))
        have hsz : wr.heap.size ≤ wq5.heap.size := (bstep (Below.drew BN.out) bq5).size
        have HSZ := hide hsz
        clear s10 hS0 bq5 hsz
        go_upto_region 12 with fail
        have s12 : Only F w5 wq5.drew := Only.drew sq
        focus
          refine wp_region_J [12] (fun W => Only F w5 W) (by kernel_rfl) (s12) (fun hS0 => ?_)
          obtain ⟨hG, hsel⟩ := okOps (md := .any) (ops := #[{ dst := some 69 , op := Go.Op.fieldAddr 45 ( Go.Operand.tmp 9 ) 4 , type := 0 , pos := "binds.go:137" , after := #[ ] , guard := none }, { dst := some 70 , op := Go.Op.load 43 ( Go.Operand.tmp 69 ) , type := 43 , pos := "binds.go:137" , after := #[ { on := 0 , ground := Go.Ground.data } ] , guard := none }, { dst := some 71 , op := Go.Op.move ( Go.Operand.tmp 1 ) , type := 32 , pos := "binds.go:137" , after := #[ ] , guard := none }, { dst := some 72 , op := Go.Op.move ( Go.Operand.tmp 10 ) , type := 3 , pos := "binds.go:137" , after := #[ ] , guard := none }, { dst := some 73 , op := Go.Op.indexAddr 32 ( Go.Operand.tmp 71 ) ( Go.Operand.tmp 72 ) , type := 0 , pos := "binds.go:137" , after := #[ { on := 2 , ground := Go.Ground.data } , { on := 3 , ground := Go.Ground.data } ] , guard := none }, { dst := some 74 , op := Go.Op.load 26 ( Go.Operand.tmp 73 ) , type := 26 , pos := "binds.go:137" , after := #[ { on := 4 , ground := Go.Ground.data } ] , guard := none }, { dst := some 75 , op := Go.Op.fieldAddr 40 ( Go.Operand.tmp 11 ) 1 , type := 0 , pos := "binds.go:137" , after := #[ ] , guard := none }, { dst := some 76 , op := Go.Op.load 26 ( Go.Operand.tmp 75 ) , type := 26 , pos := "binds.go:137" , after := #[ { on := 6 , ground := Go.Ground.data } ] , guard := none }, { dst := some 77 , op := Go.Op.build 65 #[ ( 0 , Go.Operand.tmp 74 ) , ( 1 , Go.Operand.tmp 76 ) ] , type := 65 , pos := "binds.go:137" , after := #[ { on := 5 , ground := Go.Ground.data } , { on := 7 , ground := Go.Ground.data } ] , guard := none }, { dst := some 78 , op := Go.Op.buildSlice 43 1 #[ ( 0 , Go.Operand.tmp 77 ) ] , type := 43 , pos := "binds.go:137" , after := #[ { on := 8 , ground := Go.Ground.data } ] , guard := none }, { dst := some 79 , op := Go.Op.call { callee := Go.Callee.builtin Go.Builtin.append , args := #[ Go.Operand.tmp 70 , Go.Operand.tmp 78 ] , argTypes := #[ 43 , 43 ] } , type := 43 , pos := "binds.go:137" , after := #[ { on := 1 , ground := Go.Ground.data } , { on := 9 , ground := Go.Ground.data } ] , guard := none }, { dst := some 80 , op := Go.Op.fieldAddr 45 ( Go.Operand.tmp 9 ) 4 , type := 0 , pos := "binds.go:137" , after := #[ { on := 0 , ground := Go.Ground.phase } , { on := 1 , ground := Go.Ground.phase } , { on := 2 , ground := Go.Ground.phase } , { on := 3 , ground := Go.Ground.phase } , { on := 4 , ground := Go.Ground.phase } , { on := 5 , ground := Go.Ground.phase } , { on := 6 , ground := Go.Ground.phase } , { on := 7 , ground := Go.Ground.phase } , { on := 8 , ground := Go.Ground.phase } , { on := 9 , ground := Go.Ground.phase } , { on := 10 , ground := Go.Ground.phase } ] , guard := none }, { dst := none , op := Go.Op.store 43 ( Go.Operand.tmp 80 ) ( Go.Operand.tmp 79 ) , type := 0 , pos := "binds.go:137" , after := #[ { on := 11 , ground := Go.Ground.data } , { on := 10 , ground := Go.Ground.data } , { on := 10 , ground := Go.Ground.chain } , { on := 0 , ground := Go.Ground.phase } , { on := 1 , ground := Go.Ground.phase } , { on := 2 , ground := Go.Ground.phase } , { on := 3 , ground := Go.Ground.phase } , { on := 4 , ground := Go.Ground.phase } , { on := 5 , ground := Go.Ground.phase } , { on := 6 , ground := Go.Ground.phase } , { on := 7 , ground := Go.Ground.phase } , { on := 8 , ground := Go.Ground.phase } , { on := 9 , ground := Go.Ground.phase } , { on := 10 , ground := Go.Ground.phase } ] , guard := none }]) (by kernel_rfl)
          refine wpAnyJ_takeG (i := 0) (oi := { dst := some 69 , op := Go.Op.fieldAddr 45 ( Go.Operand.tmp 9 ) 4 , type := 0 , pos := "binds.go:137" , after := #[ ] , guard := none }) (v := ?v0_13) hG hsel (by kernel_rfl) (by kernel_rfl) (by kernel_rfl) (by kernel_rfl) (fun _ _ _ h => h) (Or.inl (And.intro (by kernel_rfl) ?q0_13)) hS0 ?r0_13
          case q0_13 => intro w hx; refine run_env [9] [?a0_13_9] (by kernel_rfl) (by kernel_rfl) (⟨?e0_13_9, trivial⟩) ?h0_13; (case e0_13_9 => ((conv => lhs; whnf); (try exact rfl))); (case h0_13 => ((try dsimp only); (try simp only [envL, lookV, if_true, if_false]); (try go_simp); (try with_reducible rfl)))
          (try simp only [Act.put, List.setIfInBounds_toArray, List.set_cons_zero, List.set_cons_succ, List.getElem_toArray, List.getElem_cons_succ, List.getElem_cons_zero])
          refine wpAnyJ_takeG (i := 1) (oi := { dst := some 70 , op := Go.Op.load 43 ( Go.Operand.tmp 69 ) , type := 43 , pos := "binds.go:137" , after := #[ { on := 0 , ground := Go.Ground.data } ] , guard := none }) (v := ?v1_14) hG hsel (by kernel_rfl) (by kernel_rfl) (by kernel_rfl) (by kernel_rfl) (fun _ _ _ h => h) (Or.inl (And.intro (by kernel_rfl) ?q1_14)) hS0 ?r1_14
          case q1_14 => intro w hx; refine run_env [69] [?a1_14_69] (by kernel_rfl) (by kernel_rfl) (⟨?e1_14_69, trivial⟩) ?h1_14; (case e1_14_69 => ((conv => lhs; whnf); (try exact rfl))); (case h1_14 => ((try dsimp only); (try simp only [envL, lookV, if_true, if_false]); (try go_simp); (try with_reducible rfl)))
          (try simp only [Act.put, List.setIfInBounds_toArray, List.set_cons_zero, List.set_cons_succ, List.getElem_toArray, List.getElem_cons_succ, List.getElem_cons_zero])
          refine wpAnyJ_takeG (i := 2) (oi := { dst := some 71 , op := Go.Op.move ( Go.Operand.tmp 1 ) , type := 32 , pos := "binds.go:137" , after := #[ ] , guard := none }) (v := ?v2_15) hG hsel (by kernel_rfl) (by kernel_rfl) (by kernel_rfl) (by kernel_rfl) (fun _ _ _ h => h) (Or.inl (And.intro (by kernel_rfl) ?q2_15)) hS0 ?r2_15
          case q2_15 => intro w hx; refine run_env [1] [?a2_15_1] (by kernel_rfl) (by kernel_rfl) (⟨?e2_15_1, trivial⟩) ?h2_15; (case e2_15_1 => ((conv => lhs; whnf); (try exact rfl))); (case h2_15 => ((try dsimp only); (try simp only [envL, lookV, if_true, if_false]); (try go_simp); (try with_reducible rfl)))
          (try simp only [Act.put, List.setIfInBounds_toArray, List.set_cons_zero, List.set_cons_succ, List.getElem_toArray, List.getElem_cons_succ, List.getElem_cons_zero])
          refine wpAnyJ_takeG (i := 3) (oi := { dst := some 72 , op := Go.Op.move ( Go.Operand.tmp 10 ) , type := 3 , pos := "binds.go:137" , after := #[ ] , guard := none }) (v := ?v3_16) hG hsel (by kernel_rfl) (by kernel_rfl) (by kernel_rfl) (by kernel_rfl) (fun _ _ _ h => h) (Or.inl (And.intro (by kernel_rfl) ?q3_16)) hS0 ?r3_16
          case q3_16 => intro w hx; refine run_env [10] [?a3_16_10] (by kernel_rfl) (by kernel_rfl) (⟨?e3_16_10, trivial⟩) ?h3_16; (case e3_16_10 => ((conv => lhs; whnf); (try exact rfl))); (case h3_16 => ((try dsimp only); (try simp only [envL, lookV, if_true, if_false]); (try go_simp); (try with_reducible rfl)))
          (try simp only [Act.put, List.setIfInBounds_toArray, List.set_cons_zero, List.set_cons_succ, List.getElem_toArray, List.getElem_cons_succ, List.getElem_cons_zero])
          refine wpAnyJ_takeG (i := 4) (oi := { dst := some 73 , op := Go.Op.indexAddr 32 ( Go.Operand.tmp 71 ) ( Go.Operand.tmp 72 ) , type := 0 , pos := "binds.go:137" , after := #[ { on := 2 , ground := Go.Ground.data } , { on := 3 , ground := Go.Ground.data } ] , guard := none }) (v := ?v4_17) hG hsel (by kernel_rfl) (by kernel_rfl) (by kernel_rfl) (by kernel_rfl) (fun _ _ _ h => h) (Or.inl (And.intro (by kernel_rfl) ?q4_17)) hS0 ?r4_17
          case q4_17 => intro w hx; refine run_env [71, 72] [?a4_17_71, ?a4_17_72] (by kernel_rfl) (by kernel_rfl) (⟨?e4_17_71, ?e4_17_72, trivial⟩) ?h4_17; (case e4_17_71 => ((conv => lhs; whnf); (try exact rfl))); (case e4_17_72 => ((conv => lhs; whnf); (try exact rfl))); (case h4_17 => ((try dsimp only); (try simp only [envL, lookV, if_true, if_false]); (try go_simp); (try with_reducible rfl)))
          (try simp only [Act.put, List.setIfInBounds_toArray, List.set_cons_zero, List.set_cons_succ, List.getElem_toArray, List.getElem_cons_succ, List.getElem_cons_zero])
          refine wpAnyJ_takeG (i := 5) (oi := { dst := some 74 , op := Go.Op.load 26 ( Go.Operand.tmp 73 ) , type := 26 , pos := "binds.go:137" , after := #[ { on := 4 , ground := Go.Ground.data } ] , guard := none }) (v := ?v5_18) hG hsel (by kernel_rfl) (by kernel_rfl) (by kernel_rfl) (by kernel_rfl) (fun _ _ _ h => h) (Or.inl (And.intro (by kernel_rfl) ?q5_18)) hS0 ?r5_18
          case q5_18 => intro w hx; refine run_env [73] [?a5_18_73] (by kernel_rfl) (by kernel_rfl) (⟨?e5_18_73, trivial⟩) ?h5_18; (case e5_18_73 => ((conv => lhs; whnf); (try exact rfl))); (case h5_18 => ((try dsimp only); (try simp only [envL, lookV, if_true, if_false]); (try go_simp); (try with_reducible rfl)))
          (try simp only [Act.put, List.setIfInBounds_toArray, List.set_cons_zero, List.set_cons_succ, List.getElem_toArray, List.getElem_cons_succ, List.getElem_cons_zero])
          refine wpAnyJ_takeG (i := 6) (oi := { dst := some 75 , op := Go.Op.fieldAddr 40 ( Go.Operand.tmp 11 ) 1 , type := 0 , pos := "binds.go:137" , after := #[ ] , guard := none }) (v := ?v6_19) hG hsel (by kernel_rfl) (by kernel_rfl) (by kernel_rfl) (by kernel_rfl) (fun _ _ _ h => h) (Or.inl (And.intro (by kernel_rfl) ?q6_19)) hS0 ?r6_19
          case q6_19 => intro w hx; refine run_env [11] [?a6_19_11] (by kernel_rfl) (by kernel_rfl) (⟨?e6_19_11, trivial⟩) ?h6_19; (case e6_19_11 => ((conv => lhs; whnf); (try exact rfl))); (case h6_19 => ((try dsimp only); (try simp only [envL, lookV, if_true, if_false]); (try go_simp); (try with_reducible rfl)))
          (try simp only [Act.put, List.setIfInBounds_toArray, List.set_cons_zero, List.set_cons_succ, List.getElem_toArray, List.getElem_cons_succ, List.getElem_cons_zero])
          refine wpAnyJ_takeG (i := 7) (oi := { dst := some 76 , op := Go.Op.load 26 ( Go.Operand.tmp 75 ) , type := 26 , pos := "binds.go:137" , after := #[ { on := 6 , ground := Go.Ground.data } ] , guard := none }) (v := ?v7_20) hG hsel (by kernel_rfl) (by kernel_rfl) (by kernel_rfl) (by kernel_rfl) (fun _ _ _ h => h) (Or.inl (And.intro (by kernel_rfl) ?q7_20)) hS0 ?r7_20
          case q7_20 => intro w hx; refine run_env [75] [?a7_20_75] (by kernel_rfl) (by kernel_rfl) (⟨?e7_20_75, trivial⟩) ?h7_20; (case e7_20_75 => ((conv => lhs; whnf); (try exact rfl))); (case h7_20 => ((try dsimp only); (try simp only [envL, lookV, if_true, if_false]); (try go_simp); (try with_reducible rfl)))
          (try simp only [Act.put, List.setIfInBounds_toArray, List.set_cons_zero, List.set_cons_succ, List.getElem_toArray, List.getElem_cons_succ, List.getElem_cons_zero])
          refine wpAnyJ_takeG (i := 8) (oi := { dst := some 77 , op := Go.Op.build 65 #[ ( 0 , Go.Operand.tmp 74 ) , ( 1 , Go.Operand.tmp 76 ) ] , type := 65 , pos := "binds.go:137" , after := #[ { on := 5 , ground := Go.Ground.data } , { on := 7 , ground := Go.Ground.data } ] , guard := none }) (v := ?v8_21) hG hsel (by kernel_rfl) (by kernel_rfl) (by kernel_rfl) (by kernel_rfl) (fun _ _ _ h => h) (Or.inl (And.intro (by kernel_rfl) ?q8_21)) hS0 ?r8_21
          case q8_21 => intro w hx; refine run_env [74, 76] [?a8_21_74, ?a8_21_76] (by kernel_rfl) (by kernel_rfl) (⟨?e8_21_74, ?e8_21_76, trivial⟩) ?h8_21; (case e8_21_74 => ((conv => lhs; whnf); (try exact rfl))); (case e8_21_76 => ((conv => lhs; whnf); (try exact rfl))); (case h8_21 => ((try dsimp only); (try simp only [envL, lookV, if_true, if_false]); (try go_simp); (try with_reducible rfl)))
          (try simp only [Act.put, List.setIfInBounds_toArray, List.set_cons_zero, List.set_cons_succ, List.getElem_toArray, List.getElem_cons_succ, List.getElem_cons_zero])
          refine wpAnyJ_ready (rs := [9]) (by kernel_rfl) (by simp) ?_
          refine (AllReadyJ.cons rfl (fun K hK => ?_) AllReadyJ.nil)
          rw [if_pos (by kernel_rfl)]
          (try simp only [List.getElem_toArray, List.getElem_cons_succ, List.getElem_cons_zero])
          (focus go_simp)
          refine hK.out _ _ ?hs (fun hS0 => ?_)
          case hs => (first | with_reducible exact hS0 | with_reducible exact st | exact Only.then hS0 (fresh_below _ _))
          clear hK K
          (try simp only [Act.put, List.setIfInBounds_toArray, List.set_cons_zero, List.set_cons_succ, List.getElem_toArray, List.getElem_cons_succ, List.getElem_cons_zero])
          refine wpAnyJ_ready (rs := [10]) (by kernel_rfl) (by simp) ?_
          refine (AllReadyJ.cons rfl (fun K hK => ?_) AllReadyJ.nil)
          (focus (refine RowK.step_app (K := holdK) rfl (.tmp 70) (.tmp 78) rfl _ _ rfl rfl (holdsL (q.ws.take kk) (os.take kk)) [holdOf r t] (RowK.Own.below (RowK.Own.below OWN.out (Below.drew (Below.refl _ _))) (fresh_below _ _)) (RowK.Read.one (Cells.new _ _ _)) (by rw [holdsL_len _ _ (by simp; omega)]; simp; omega) ?_; intro A1 n1 w9 o9 g9' h9; rw [HLN.out] at o9 h9 ⊢; have st := Only.app hS0 g9' (fun j e => Or.inl (by rw [HFE.out]; exact e))))
          (focus (try go_wp2_with fail))
          refine hK.out _ _ ?hs (fun hS0 => ?_)
          case hs => (first | with_reducible exact hS0 | with_reducible exact st | exact Only.then hS0 (fresh_below _ _))
          clear hK K
          (try simp only [Act.put, List.setIfInBounds_toArray, List.set_cons_zero, List.set_cons_succ, List.getElem_toArray, List.getElem_cons_succ, List.getElem_cons_zero])
          refine wpAnyJ_takeG (i := 11) (oi := { dst := some 80 , op := Go.Op.fieldAddr 45 ( Go.Operand.tmp 9 ) 4 , type := 0 , pos := "binds.go:137" , after := #[ { on := 0 , ground := Go.Ground.phase } , { on := 1 , ground := Go.Ground.phase } , { on := 2 , ground := Go.Ground.phase } , { on := 3 , ground := Go.Ground.phase } , { on := 4 , ground := Go.Ground.phase } , { on := 5 , ground := Go.Ground.phase } , { on := 6 , ground := Go.Ground.phase } , { on := 7 , ground := Go.Ground.phase } , { on := 8 , ground := Go.Ground.phase } , { on := 9 , ground := Go.Ground.phase } , { on := 10 , ground := Go.Ground.phase } ] , guard := none }) (v := ?v11_22) hG hsel (by kernel_rfl) (by kernel_rfl) (by kernel_rfl) (by kernel_rfl) (fun _ _ _ h => h) (Or.inl (And.intro (by kernel_rfl) ?q11_22)) hS0 ?r11_22
          case q11_22 => intro w hx; refine run_env [9] [?a11_22_9] (by kernel_rfl) (by kernel_rfl) (⟨?e11_22_9, trivial⟩) ?h11_22; (case e11_22_9 => ((conv => lhs; whnf); (try exact rfl))); (case h11_22 => ((try dsimp only); (try simp only [envL, lookV, if_true, if_false]); (try go_simp); (try with_reducible rfl)))
          (try simp only [Act.put, List.setIfInBounds_toArray, List.set_cons_zero, List.set_cons_succ, List.getElem_toArray, List.getElem_cons_succ, List.getElem_cons_zero])
          refine wpAnyJ_ready (rs := [12]) (by kernel_rfl) (by simp) ?_
          refine (AllReadyJ.last rfl (by kernel_rfl) (fun K hK => ?_) AllReadyJ.nil)
          (focus (rw [if_pos (by kernel_rfl)]; have y9 := q9 _ hS0; have f9' := f9 _ hS0; go_simp))
          (focus (try go_wp2_with fail))
          refine hK.out _ _ ?_
          clear hK K
          (try simp only [Act.put, List.setIfInBounds_toArray, List.set_cons_zero, List.set_cons_succ, List.getElem_toArray, List.getElem_cons_succ, List.getElem_cons_zero])
          refine wpAnyJ_done (by kernel_rfl) ?_ _
        have gr2 : Grow holdK w6 g9 (fun v => #[.int .u8 q.x.p, .int .u32 q.x.si, .int .u16 q.x.sp, .int .u32 q.x.di, .int .u16 q.x.dp, .int .u8 q.x.p, .int .u32 q.di, .int .u16 q.dp, .int .u32 q.x.si, .int .u16 q.x.sp, .int .i64 q.st, .int .i64 0, v]) 45 (holdsL (q.ws.take (kk + 1)) (os.take (kk + 1))) _ (w9.setCell ⟨g9, 12, none⟩ (.slice A1 (kk + 1) n1)) := Grow.step (l := holdsL (q.ws.take kk) (os.take kk)) GR.out (fun u v => by simp) (by rw [HFE.out] at hS0; exact Only.trans (Only.of_below BN.out (Nat.le_refl _)) hS0) (by rw [holdsL_snoc _ _ hl hlo, ← HR.out, ← HTT.out]; exact o9) (by
          rcases h9 with e | e
          · exact Or.inl e
          · exact Or.inr (fun j k => by rw [e] at k; cases k; have := HSZ.out; simp; omega))
        have FT2 : fitsL (q.ws.take (kk + 1)) (os.take (kk + 1)) = true := by rw [fitsL_snoc _ _ hl hlo, FT.out, ← HR.out, ← HTT.out, HFV.out]; rfl
        have GR2 := hide gr2; have FT3 := hide FT2
        clear g9' h9 o9 sq p0 p1 q9 f9 q11_0 q11_1 q11_2 q11_3 q11_4 q11_5 q11_6 q11_7 bb s12 gr2 FT2 hS0 OWN GR LW5 HFE HR HTT BN K1 HF1 HF2 CF HFV HLN st
        generalize (w9.setCell ⟨g9, 12, none⟩ (.slice A1 (kk + 1) n1)) = w10 at *
        go_wp2_with fail
        go_roundg (n - (kk + 1))
        case measure => omega
        case rel => exact ⟨kk + 1, by omega, by omega, by go_num, (show Aside _ from ⟨_, GR2.out⟩), (show Aside _ from FT3.out)⟩
    · have hltz : ¬ (kk : Int) < (n : Int) := by omega
      have e0 : kk = n := by omega
      subst e0
      have FTA : fitsL q.ws os = true := by have := FT.out; rwa [List.take_of_length_le (by have := HN.out; omega), List.take_of_length_le (by have := HNO.out; omega)] at this
      have own := gr.own
      have hup := gr.up
      rw [List.take_of_length_le (by have := HN.out; omega), List.take_of_length_le (by have := HNO.out; omega)] at own
      obtain ⟨A2, c2, hV, hc2⟩ := own.slice
      rw [HLEN.out] at hV hc2
      subst hV
      have hrv := HRV.out
      rw [if_neg (by rw [FTA]; decide)] at hrv
      have HRW := hide hrv
      clear HRV hrv FTA
      have qk0_0 : ∀ W', Below wr.heap.size wr W' → World.cell? W' ⟨w.heap.size, 0, none⟩ = some (.int .u8 q.x.p) := fun W' h => Cells.at_ (Cells.below h k0) 0
      have qk0_1 : ∀ W', Below wr.heap.size wr W' → World.cell? W' ⟨w.heap.size, 1, none⟩ = some (.int .u32 q.x.si) := fun W' h => Cells.at_ (Cells.below h k0) 1
      have qk0_2 : ∀ W', Below wr.heap.size wr W' → World.cell? W' ⟨w.heap.size, 2, none⟩ = some (.int .u16 q.x.sp) := fun W' h => Cells.at_ (Cells.below h k0) 2
      have qk0_3 : ∀ W', Below wr.heap.size wr W' → World.cell? W' ⟨w.heap.size, 3, none⟩ = some (.int .u32 q.x.di) := fun W' h => Cells.at_ (Cells.below h k0) 3
      have qk0_4 : ∀ W', Below wr.heap.size wr W' → World.cell? W' ⟨w.heap.size, 4, none⟩ = some (.int .u16 q.x.dp) := fun W' h => Cells.at_ (Cells.below h k0) 4
      have qk0_5 : ∀ W', Below wr.heap.size wr W' → World.cell? W' ⟨w.heap.size, 5, none⟩ = some (.int .u32 q.di) := fun W' h => Cells.at_ (Cells.below h k0) 5
      have qk0_6 : ∀ W', Below wr.heap.size wr W' → World.cell? W' ⟨w.heap.size, 6, none⟩ = some (.int .u16 q.dp) := fun W' h => Cells.at_ (Cells.below h k0) 6
      have qk0_7 : ∀ W', Below wr.heap.size wr W' → World.cell? W' ⟨w.heap.size, 7, none⟩ = some (.bool false) := fun W' h => Cells.at_ (Cells.below h k0) 7
      have qk0_8 : ∀ W', Below wr.heap.size wr W' → World.cell? W' ⟨w.heap.size, 8, none⟩ = some (.int .i64 q.st) := fun W' h => Cells.at_ (Cells.below h k0) 8
      have qk0_9 : ∀ W', Below wr.heap.size wr W' → World.cell? W' ⟨w.heap.size, 9, none⟩ = some (.slice A kk c) := fun W' h => Cells.at_ (Cells.below h k0) 9
      have f9 : ∀ W', Below wr.heap.size wr W' → World.frozen? W' ⟨g9, 11, none⟩ = false := fun W' hW => (Cells.below hW kg).free 11
      have y9 : ∀ W', Below wr.heap.size wr W' → World.cell? W' ⟨g9, 11, none⟩ = some (.int .i64 0) := fun W' hW => (Cells.below hW kg).at_ 11
      have bb : Below wr.heap.size wr wr := Below.refl _ _
      have htb := HTB.out
      have n0 := N0.out; have n1 := N1.out
      have hwr : IntKind.i64.wrap (now + tv) = now + tv := IntWalk.i64_in _ (by omega)
      have c4 := fun W => tk_Flow W q.x.p
      have c7 := fun W (hW : Below wr.heap.size wr W) => tk_Timeout W (flowV q.x.p) q.st (HT.out.below (bstep lw hW))
      rw [HTV.out] at c7
      have C4 := hide c4; have C7 := hide c7
      have KG := hide kg; have K1 := hide k1; have LWR := hide lw; have OW := hide own; have UP := hide hup
      clear c4 c7 k0 k1 kg lw own hup gr FT htb n0 n1
      go_upto_region 14 with fail
      have s14 : Below wr.heap.size wr wr.drew := Below.drew bb
      focus
        refine wp_region_J [10] (fun W => Below wr.heap.size wr W) (by kernel_rfl) (s14) (fun hS0 => ?_)
        obtain ⟨hG, hsel⟩ := okOps (md := .any) (ops := #[{ dst := some 82 , op := Go.Op.move ( Go.Operand.tmp 2 ) , type := 3 , pos := "binds.go:139" , after := #[ ] , guard := none }, { dst := some 83 , op := Go.Op.fieldAddr 31 ( Go.Operand.tmp 3 ) 0 , type := 0 , pos := "binds.go:139" , after := #[ ] , guard := none }, { dst := some 84 , op := Go.Op.fieldAddr 28 ( Go.Operand.tmp 83 ) 0 , type := 0 , pos := "binds.go:139" , after := #[ { on := 1 , ground := Go.Ground.data } ] , guard := none }, { dst := some 85 , op := Go.Op.load 5 ( Go.Operand.tmp 84 ) , type := 5 , pos := "binds.go:139" , after := #[ { on := 2 , ground := Go.Ground.data } ] , guard := none }, { dst := some 86 , op := Go.Op.call { callee := Go.Callee.value ( Go.Operand.func 16 ) , args := #[ Go.Operand.tmp 85 ] , argTypes := #[ 5 ] } , type := 3 , pos := "binds.go:139" , after := #[ { on := 3 , ground := Go.Ground.data } ] , guard := none }, { dst := some 87 , op := Go.Op.fieldAddr 31 ( Go.Operand.tmp 3 ) 3 , type := 0 , pos := "binds.go:139" , after := #[ ] , guard := none }, { dst := some 88 , op := Go.Op.load 3 ( Go.Operand.tmp 87 ) , type := 3 , pos := "binds.go:139" , after := #[ { on := 5 , ground := Go.Ground.data } ] , guard := none }, { dst := some 89 , op := Go.Op.call { callee := Go.Callee.value ( Go.Operand.func 15 ) , args := #[ Go.Operand.tmp 86 , Go.Operand.tmp 88 ] , argTypes := #[ 3 , 3 ] } , type := 3 , pos := "binds.go:139" , after := #[ { on := 4 , ground := Go.Ground.data } , { on := 6 , ground := Go.Ground.data } , { on := 4 , ground := Go.Ground.chain } ] , guard := none }, { dst := some 90 , op := Go.Op.binOp Go.BinOp.add 3 ( Go.Operand.tmp 82 ) ( Go.Operand.tmp 89 ) 3 , type := 3 , pos := "binds.go:139" , after := #[ { on := 0 , ground := Go.Ground.data } , { on := 7 , ground := Go.Ground.data } ] , guard := none }, { dst := some 91 , op := Go.Op.fieldAddr 45 ( Go.Operand.tmp 9 ) 3 , type := 0 , pos := "binds.go:139" , after := #[ { on := 0 , ground := Go.Ground.phase } , { on := 1 , ground := Go.Ground.phase } , { on := 2 , ground := Go.Ground.phase } , { on := 3 , ground := Go.Ground.phase } , { on := 4 , ground := Go.Ground.phase } , { on := 5 , ground := Go.Ground.phase } , { on := 6 , ground := Go.Ground.phase } , { on := 7 , ground := Go.Ground.phase } , { on := 8 , ground := Go.Ground.phase } ] , guard := none }, { dst := none , op := Go.Op.store 3 ( Go.Operand.tmp 91 ) ( Go.Operand.tmp 90 ) , type := 0 , pos := "binds.go:139" , after := #[ { on := 9 , ground := Go.Ground.data } , { on := 8 , ground := Go.Ground.data } , { on := 7 , ground := Go.Ground.chain } , { on := 0 , ground := Go.Ground.phase } , { on := 1 , ground := Go.Ground.phase } , { on := 2 , ground := Go.Ground.phase } , { on := 3 , ground := Go.Ground.phase } , { on := 4 , ground := Go.Ground.phase } , { on := 5 , ground := Go.Ground.phase } , { on := 6 , ground := Go.Ground.phase } , { on := 7 , ground := Go.Ground.phase } , { on := 8 , ground := Go.Ground.phase } ] , guard := none }]) (by kernel_rfl)
        refine wpAnyJ_takeG (i := 0) (oi := { dst := some 82 , op := Go.Op.move ( Go.Operand.tmp 2 ) , type := 3 , pos := "binds.go:139" , after := #[ ] , guard := none }) (v := ?v0_23) hG hsel (by kernel_rfl) (by kernel_rfl) (by kernel_rfl) (by kernel_rfl) (fun _ _ _ h => h) (Or.inl (And.intro (by kernel_rfl) ?q0_23)) hS0 ?r0_23
        case q0_23 => intro w hx; refine run_env [2] [?a0_23_2] (by kernel_rfl) (by kernel_rfl) (⟨?e0_23_2, trivial⟩) ?h0_23; (case e0_23_2 => ((conv => lhs; whnf); (try exact rfl))); (case h0_23 => ((try dsimp only); (try simp only [envL, lookV, if_true, if_false]); (try go_simp); (try with_reducible rfl)))
        (try simp only [Act.put, List.setIfInBounds_toArray, List.set_cons_zero, List.set_cons_succ, List.getElem_toArray, List.getElem_cons_succ, List.getElem_cons_zero])
        refine wpAnyJ_takeG (i := 1) (oi := { dst := some 83 , op := Go.Op.fieldAddr 31 ( Go.Operand.tmp 3 ) 0 , type := 0 , pos := "binds.go:139" , after := #[ ] , guard := none }) (v := ?v1_24) hG hsel (by kernel_rfl) (by kernel_rfl) (by kernel_rfl) (by kernel_rfl) (fun _ _ _ h => h) (Or.inl (And.intro (by kernel_rfl) ?q1_24)) hS0 ?r1_24
        case q1_24 => intro w hx; refine run_env [3] [?a1_24_3] (by kernel_rfl) (by kernel_rfl) (⟨?e1_24_3, trivial⟩) ?h1_24; (case e1_24_3 => ((conv => lhs; whnf); (try exact rfl))); (case h1_24 => ((try dsimp only); (try simp only [envL, lookV, if_true, if_false]); (try go_simp); (try with_reducible rfl)))
        (try simp only [Act.put, List.setIfInBounds_toArray, List.set_cons_zero, List.set_cons_succ, List.getElem_toArray, List.getElem_cons_succ, List.getElem_cons_zero])
        refine wpAnyJ_takeG (i := 2) (oi := { dst := some 84 , op := Go.Op.fieldAddr 28 ( Go.Operand.tmp 83 ) 0 , type := 0 , pos := "binds.go:139" , after := #[ { on := 1 , ground := Go.Ground.data } ] , guard := none }) (v := ?v2_25) hG hsel (by kernel_rfl) (by kernel_rfl) (by kernel_rfl) (by kernel_rfl) (fun _ _ _ h => h) (Or.inl (And.intro (by kernel_rfl) ?q2_25)) hS0 ?r2_25
        case q2_25 => intro w hx; refine run_env [83] [?a2_25_83] (by kernel_rfl) (by kernel_rfl) (⟨?e2_25_83, trivial⟩) ?h2_25; (case e2_25_83 => ((conv => lhs; whnf); (try exact rfl))); (case h2_25 => ((try dsimp only); (try simp only [envL, lookV, if_true, if_false]); (try go_simp); (try with_reducible rfl)))
        (try simp only [Act.put, List.setIfInBounds_toArray, List.set_cons_zero, List.set_cons_succ, List.getElem_toArray, List.getElem_cons_succ, List.getElem_cons_zero])
        refine wpAnyJ_takeG (i := 3) (oi := { dst := some 85 , op := Go.Op.load 5 ( Go.Operand.tmp 84 ) , type := 5 , pos := "binds.go:139" , after := #[ { on := 2 , ground := Go.Ground.data } ] , guard := none }) (v := ?v3_26) hG hsel (by kernel_rfl) (by kernel_rfl) (by kernel_rfl) (by kernel_rfl) (fun _ _ _ h => h) (Or.inl (And.intro (by kernel_rfl) ?q3_26)) hS0 ?r3_26
        case q3_26 => intro w hx; refine run_env [84] [?a3_26_84] (by kernel_rfl) (by kernel_rfl) (⟨?e3_26_84, trivial⟩) ?h3_26; (case e3_26_84 => ((conv => lhs; whnf); (try exact rfl))); (case h3_26 => ((try dsimp only); (try simp only [envL, lookV, if_true, if_false]); (try go_simp); (try with_reducible rfl)))
        (try simp only [Act.put, List.setIfInBounds_toArray, List.set_cons_zero, List.set_cons_succ, List.getElem_toArray, List.getElem_cons_succ, List.getElem_cons_zero])
        refine wpAnyJ_takeG (i := 5) (oi := { dst := some 87 , op := Go.Op.fieldAddr 31 ( Go.Operand.tmp 3 ) 3 , type := 0 , pos := "binds.go:139" , after := #[ ] , guard := none }) (v := ?v5_27) hG hsel (by kernel_rfl) (by kernel_rfl) (by kernel_rfl) (by kernel_rfl) (fun _ _ _ h => h) (Or.inl (And.intro (by kernel_rfl) ?q5_27)) hS0 ?r5_27
        case q5_27 => intro w hx; refine run_env [3] [?a5_27_3] (by kernel_rfl) (by kernel_rfl) (⟨?e5_27_3, trivial⟩) ?h5_27; (case e5_27_3 => ((conv => lhs; whnf); (try exact rfl))); (case h5_27 => ((try dsimp only); (try simp only [envL, lookV, if_true, if_false]); (try go_simp); (try with_reducible rfl)))
        (try simp only [Act.put, List.setIfInBounds_toArray, List.set_cons_zero, List.set_cons_succ, List.getElem_toArray, List.getElem_cons_succ, List.getElem_cons_zero])
        refine wpAnyJ_takeG (i := 6) (oi := { dst := some 88 , op := Go.Op.load 3 ( Go.Operand.tmp 87 ) , type := 3 , pos := "binds.go:139" , after := #[ { on := 5 , ground := Go.Ground.data } ] , guard := none }) (v := ?v6_28) hG hsel (by kernel_rfl) (by kernel_rfl) (by kernel_rfl) (by kernel_rfl) (fun _ _ _ h => h) (Or.inl (And.intro (by kernel_rfl) ?q6_28)) hS0 ?r6_28
        case q6_28 => intro w hx; refine run_env [87] [?a6_28_87] (by kernel_rfl) (by kernel_rfl) (⟨?e6_28_87, trivial⟩) ?h6_28; (case e6_28_87 => ((conv => lhs; whnf); (try exact rfl))); (case h6_28 => ((try dsimp only); (try simp only [envL, lookV, if_true, if_false]); (try go_simp); (try with_reducible rfl)))
        (try simp only [Act.put, List.setIfInBounds_toArray, List.set_cons_zero, List.set_cons_succ, List.getElem_toArray, List.getElem_cons_succ, List.getElem_cons_zero])
        refine wpAnyJ_ready (rs := [4]) (by kernel_rfl) (by simp) ?_
        refine (AllReadyJ.cons rfl (fun K hK => ?_) AllReadyJ.nil)
        rw [if_pos (by kernel_rfl)]
        (try simp only [List.getElem_toArray, List.getElem_cons_succ, List.getElem_cons_zero])
        (focus go_simp)
        (focus ((with_reducible refine (C4.out _).mono ?_); rintro e wq4 ⟨rfl, bq4⟩; have sq := bstep hS0 bq4))
        (focus (try go_wp2_with fail))
        refine hK.out _ _ ?hs (fun hS0 => ?_)
        case hs => (first | with_reducible exact hS0 | with_reducible exact sq)
        clear hK K
        (try simp only [Act.put, List.setIfInBounds_toArray, List.set_cons_zero, List.set_cons_succ, List.getElem_toArray, List.getElem_cons_succ, List.getElem_cons_zero])
        refine wpAnyJ_ready (rs := [7]) (by kernel_rfl) (by simp) ?_
        refine (AllReadyJ.cons rfl (fun K hK => ?_) AllReadyJ.nil)
        rw [if_pos (by kernel_rfl)]
        (try simp only [List.getElem_toArray, List.getElem_cons_succ, List.getElem_cons_zero])
        (focus go_simp)
        (focus ((with_reducible refine (C7.out _ hS0).mono ?_); rintro e wq7 ⟨rfl, bq7⟩; have sq := bstep hS0 bq7))
        (focus (try go_wp2_with fail))
        refine hK.out _ _ ?hs (fun hS0 => ?_)
        case hs => (first | with_reducible exact hS0 | with_reducible exact sq)
        clear hK K
        (try simp only [Act.put, List.setIfInBounds_toArray, List.set_cons_zero, List.set_cons_succ, List.getElem_toArray, List.getElem_cons_succ, List.getElem_cons_zero])
        refine wpAnyJ_takeG (i := 8) (oi := { dst := some 90 , op := Go.Op.binOp Go.BinOp.add 3 ( Go.Operand.tmp 82 ) ( Go.Operand.tmp 89 ) 3 , type := 3 , pos := "binds.go:139" , after := #[ { on := 0 , ground := Go.Ground.data } , { on := 7 , ground := Go.Ground.data } ] , guard := none }) (v := ?v8_29) hG hsel (by kernel_rfl) (by kernel_rfl) (by kernel_rfl) (by kernel_rfl) (fun _ _ _ h => h) (Or.inl (And.intro (by kernel_rfl) ?q8_29)) hS0 ?r8_29
        case q8_29 => intro w hx; refine run_env [82, 89] [?a8_29_82, ?a8_29_89] (by kernel_rfl) (by kernel_rfl) (⟨?e8_29_82, ?e8_29_89, trivial⟩) ?h8_29; (case e8_29_82 => ((conv => lhs; whnf); (try exact rfl))); (case e8_29_89 => ((conv => lhs; whnf); (try exact rfl))); (case h8_29 => ((try dsimp only); (try simp only [envL, lookV, if_true, if_false]); (try go_simp); (try with_reducible rfl)))
        (try simp only [Act.put, List.setIfInBounds_toArray, List.set_cons_zero, List.set_cons_succ, List.getElem_toArray, List.getElem_cons_succ, List.getElem_cons_zero])
        refine wpAnyJ_takeG (i := 9) (oi := { dst := some 91 , op := Go.Op.fieldAddr 45 ( Go.Operand.tmp 9 ) 3 , type := 0 , pos := "binds.go:139" , after := #[ { on := 0 , ground := Go.Ground.phase } , { on := 1 , ground := Go.Ground.phase } , { on := 2 , ground := Go.Ground.phase } , { on := 3 , ground := Go.Ground.phase } , { on := 4 , ground := Go.Ground.phase } , { on := 5 , ground := Go.Ground.phase } , { on := 6 , ground := Go.Ground.phase } , { on := 7 , ground := Go.Ground.phase } , { on := 8 , ground := Go.Ground.phase } ] , guard := none }) (v := ?v9_30) hG hsel (by kernel_rfl) (by kernel_rfl) (by kernel_rfl) (by kernel_rfl) (fun _ _ _ h => h) (Or.inl (And.intro (by kernel_rfl) ?q9_30)) hS0 ?r9_30
        case q9_30 => intro w hx; refine run_env [9] [?a9_30_9] (by kernel_rfl) (by kernel_rfl) (⟨?e9_30_9, trivial⟩) ?h9_30; (case e9_30_9 => ((conv => lhs; whnf); (try exact rfl))); (case h9_30 => ((try dsimp only); (try simp only [envL, lookV, if_true, if_false]); (try go_simp); (try with_reducible rfl)))
        (try simp only [Act.put, List.setIfInBounds_toArray, List.set_cons_zero, List.set_cons_succ, List.getElem_toArray, List.getElem_cons_succ, List.getElem_cons_zero])
        refine wpAnyJ_ready (rs := [10]) (by kernel_rfl) (by simp) ?_
        refine (AllReadyJ.last rfl (by kernel_rfl) (fun K hK => ?_) AllReadyJ.nil)
        (focus (rw [if_pos (by kernel_rfl)]; have y9' := y9 _ hS0; have f9' := f9 _ hS0; go_simp))
        (focus (try go_wp2_with fail))
        refine hK.out _ _ ?_
        clear hK K
        (try simp only [Act.put, List.setIfInBounds_toArray, List.set_cons_zero, List.set_cons_succ, List.getElem_toArray, List.getElem_cons_succ, List.getElem_cons_zero])
        refine wpAnyJ_done (by kernel_rfl) ?_ _
      have hg9s : g9 < wr.heap.size := Cells.lt KG.out
      have kx : Cells (wq7.setCell ⟨g9, 11, none⟩ (.int .i64 (now + tv))) g9 #[.int .u8 q.x.p, .int .u32 q.x.si, .int .u16 q.x.sp, .int .u32 q.x.di, .int .u16 q.x.dp, .int .u8 q.x.p, .int .u32 q.di, .int .u16 q.dp, .int .u32 q.x.si, .int .u16 q.x.sp, .int .i64 q.st, .int .i64 (now + tv), .slice A2 kk c2] 45 := Cells.like (Cells.set_ (Cells.below hS0 KG.out) 11 (.int .i64 (now + tv))) (by simp)
      have lx : Below w.heap.size w (wq7.setCell ⟨g9, 11, none⟩ (.int .i64 (now + tv))) := Below.setCell (bstep LWR.out hS0) (by show w.heap.size ≤ g9; omega) _
      have k1x := Cells.other (Cells.below hS0 K1.out) (by omega : w.heap.size + 1 ≠ g9) 11 (.int .i64 (now + tv))
      have owx := Own.set (OW.out.below hS0) g9 11 (.int .i64 (now + tv)) (fun e => by have := UP.out _ e; omega)
      clear y9 f9 bb s14 qk0_0 qk0_1 qk0_2 qk0_3 qk0_4 qk0_5 qk0_6 qk0_7 qk0_8 qk0_9
      have KX := hide kx; have LX := hide lx; have K1X := hide k1x; have OWX := hide owx
      clear kx lx k1x owx hS0 sq bq4 KG K1 LWR OW C4 C7
      generalize (wq7.setCell ⟨g9, 11, none⟩ (.int .i64 (now + tv))) = wx at *
      have hok : ENT.Ok := by rw [HENT.out]; exact ⟨HP.out, HP.out⟩
      have ck := fun W (hW : Below w.heap.size w W) => e_Check W ENT A2 kk c2 (by rw [HENT.out]; exact HLEN.out.symm) (by omega) hok (HW.out.below hW) (HT.out.below hW)
      rw [HENT.out] at ck
      simp only at ck
      rw [← HENT.out] at ck
      have CK := hide ck
      clear ck hok
      go_upto_region 15 with fail
      refine wp_region_lit ?_
      refine wpList_load_all rfl 45 (.tmp 9) rfl KX.out (by rfl) _ Tryd.underlying45 rfl (by kernel_rfl) ?_
      go_upto_region 16 with (go_at_call 17; (with_reducible refine (CK.out _ LX.out).mono ?_); rintro e wc ⟨rfl, bc⟩)
      have KC := hide (Cells.below bc KX.out); have HZ := hide (Cells.below bc K1X.out); have LW := hide (bstep LX.out bc); have OC := hide (OWX.out.below bc)
      clear bc KX K1X LX OWX CK
      obtain ⟨me, hme⟩ : ∃ me, entMay ENT = me := ⟨_, rfl⟩
      rw [hme]
      have hrv := HRW.out
      rw [hme] at hrv
      clear hme HRW
      cases me
      · have er : RV = (zeroE, 2) := hrv
        clear hrv
        subst er
        simp only [Bool.false_eq_true, if_false]
        go_upto_region 17 with fail
        refine wp_region_lit ?_
        refine wpList_plain rfl fun K hK => ?_; go_simp; refine hK _ _ ?_; clear hK K
        refine wpList_plain rfl fun K hK => ?_; go_simp; refine hK _ _ ?_; clear hK K
        refine wpList_store_all rfl 45 (.tmp 6) (.tmp 96) rfl HZ.out (by rfl) (by rfl) (by kernel_rfl) rfl (by simp [Value.oneCell']) ?_
        intro W5 r5 o5 z5
        go_wp2_with fail
        (try simp only [Exit.inBlock, Exit.then])
        refine bodyPost_ret (res_cell_tmp Tryd.results8 r5 (by rfl) (by rfl) _ Tryd.underlying45 rfl (by kernel_rfl)) rfl ?_
        exact ⟨.slice none 0 0, rfl, RowK.Own.nil _, (fun g e => by cases e), LW.out.trans (o5.below (fun j e => by omega) LW.out.size)⟩
      · rw [if_neg (by decide), HENT.out] at hrv
        subst hrv
        simp only [if_true]
        go_upto_region 18 with fail
        refine wp_region_lit ?_
        refine wpList_load_all rfl 45 (.tmp 9) rfl KC.out (by rfl) _ Tryd.underlying45 rfl (by kernel_rfl) ?_
        (try simp only [Act.put, List.setIfInBounds_toArray, List.set_cons_zero, List.set_cons_succ])
        refine wpList_store_all rfl 45 (.tmp 6) (.tmp 98) rfl (c' := #[.int .u8 q.x.p, .int .u32 q.x.si, .int .u16 q.x.sp, .int .u32 q.x.di, .int .u16 q.x.dp, .int .u8 q.x.p, .int .u32 q.di, .int .u16 q.dp, .int .u32 q.x.si, .int .u16 q.x.sp, .int .i64 q.st, .int .i64 (now + tv), .slice A2 kk c2]) HZ.out (by rfl) (by rfl) (by kernel_rfl) rfl (by simp [Value.oneCell']) ?_
        intro W5 r5 o5 z5
        go_wp2_with fail
        (try simp only [Exit.inBlock, Exit.then])
        refine bodyPost_ret (res_cell_tmp Tryd.results8 r5 (by rfl) (by rfl) _ Tryd.underlying45 rfl (by kernel_rfl)) rfl ?_
        exact ⟨_, rfl, Own.other OC.out o5 (fun e => by have := UP.out _ e; omega), (fun j e => by have := UP.out _ e; omega), LW.out.trans (o5.below (fun j e => by omega) LW.out.size)⟩
end Go.Proofs.YtilfcikhipadpaaDoor
end
