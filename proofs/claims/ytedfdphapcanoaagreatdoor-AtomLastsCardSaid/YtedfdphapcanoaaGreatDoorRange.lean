/- A range over an iterator all of whose elements are known, whose body always goes on, and which may write its own captured box ahead of the rounds. (Turned from the kit's law for ranges over functions.) -/
import Derived.RangeFuncNested
import Derived.RangeFuncBound
import Derived.RangeFuncCalls
import Derived.RangeFuncLeaves
import Derived.Shelf.Abstract
import Derived.Shelf.RegionOpen
import Derived.WalkKit
import Derived.OwnWalkIn
import Derived.TacticsInMore
import Derived.LoopNIn
import Derived.LoopIn
import Derived.Test.YtedfdphapcanoaaGreatDoorBase
set_option linter.unusedVariables false
namespace Go.Proofs.YtedfdphapcanoaaGreatDoor
open Go.RowKit Go.Shelf

/-- the iterator hands over just xs; B: its own captured box, which it may write; a round keeps that box -/
def SeqAll {α : Type} (F : Fence) (n : Nat) (P : Program) (g : Nat) (lb : Array Value) (encs : α → Array Value) (B : Nat) (xs : List α) (w : World) : Prop :=
  ∀ (l : Nat) (J : List α → World → Prop) (W : World), Below w.heap.size w W → AbidesFrom W.heap.size J → (∀ s A v, J s A → J s (A.setCell ⟨B, 0, none⟩ v)) →
    (∀ pre x rest W1, xs = pre ++ x :: rest → J pre W1 → YieldAt F (n - 1) P l (encs x) W1 fun e W' => e = .returned (.bool true) ∧ J (pre ++ [x]) W' ∧ W'.heap[B]? = W1.heap[B]?) →
    J [] W →
    CallsIn F n P g (#[.func (.yield l) #[] #[]] ++ lb) W fun e W' => (∃ v, e = .returned v) ∧ J xs W'

/-- how a round ends: it goes on -/
def allPost {α : Type} (B : Nat) (I : List α → World → Prop) (xs : List α) (W : World) : Exit → Act → World → Prop
  | .normal, _, W' => KeepsOthers W W' ∧ W'.heap[B]? = W.heap[B]? ∧ I xs W'
  | _, _, _ => False

theorem KeepsOthers.of_below {W W' : World} (h : Below W.heap.size W W') : KeepsOthers W W' :=
  ⟨h.size, fun k o hk _ => (h.block k (Array.getElem?_eq_some_iff.1 hk).1).trans hk⟩

theorem setCell_other (W : World) {B k : Nat} (v : Value) (h : k ≠ B) : (W.setCell ⟨B, 0, none⟩ v).heap[k]? = W.heap[k]? := Below.heap_setCell W ⟨B, 0, none⟩ v k h

variable {F : Fence} {n : Nat} {P : Program}

theorem wpIn_rangeFunc_all {α : Type} {g : Operand} {ps : Array Tmp} {assign body : Code} {Q : Exit → Act → World → Prop} {a : Act} {w : World}
    (hro : F.round = none) (h1 : 1 ≤ n) {gf : Nat} {lb : Array Value} (hg : a.eval g = .func (.func gf) #[] lb) (hFg : F.fn gf) (eg : ∀ args w, (callFunc gf args).run P w = .ok (.enter gf args) w)
    {encs : α → Array Value} {B : Nat} {xs : List α} {w0 : World} (hseq : SeqAll F (n - 1) P gf lb encs B xs w0) (hB : B < w.heap.size) (hb0 : Below w0.heap.size w0 w) (hps : ∀ x, (encs x).size = ps.size)
    (I : List α → World → Prop) (hI : OwnFrom w.heap.size I) (hIB : ∀ s A v, I s A → I s (A.setCell ⟨B, 0, none⟩ v)) (h0 : I [] w) (a₁ : α → Act)
    (hassign : ∀ (l : Nat) (x : α) (W : World) (K : Act → World → Prop), K (a₁ x) W →
      assign.wpIn (F.inRound l) (n - 1 - 1) P (Exit.then K (fun _ _ _ => False)) { tmps := (ps.zip (encs x)).foldl (fun t (p, v) => t.setIfInBounds p v) a.tmps, defers := [] } W)
    (hbody : ∀ (l : Nat) (pre : List α) (x : α) (rest : List α) (W : World), xs = pre ++ x :: rest → I pre W → body.wpIn (F.inRound l) (n - 1 - 1) P (allPost B I (pre ++ [x]) W) (a₁ x) W)
    (hdone : ∀ (D : Nat) (W : World), w.heap.size ≤ D → I xs W → W.heap[D]? = some (.deferred (some [])) → Q .normal { a with defers := { target := .collected D, args := #[] } :: a.defers } W) :
    (Code.rangeFunc g ps assign body).wpIn F n P Q a w := by
  refine wpIn_rangeFunc ?_
  intro fn hfn
  rw [hro]
  obtain ⟨rec, hrec⟩ : ∃ rec : LoopState → Option Code → Loop, rec = fun st pe => { state := st, pending := pe, fn, tmps := a.tmps, params := ps, assign, body, defers := w.heap.size } := ⟨_, rfl⟩
  obtain ⟨W1, hW1⟩ : ∃ W1, (w.alloc (.deferred (some []))).alloc (.loop (rec .ready none)) = W1 := ⟨_, rfl⟩
  have hL1 : W1.heap[w.heap.size + 1]? = some (.loop (rec .ready none)) := by
    rw [← hW1]; have := World.alloc_heap_new (w.alloc (.deferred (some []))) (.loop (rec .ready none)); rwa [World.size_alloc] at this
  have hK1 : W1.heap[w.heap.size]? = some (.deferred (some [])) := by
    rw [← hW1]; exact (Below.heap_alloc _ _ _ (by simp)).trans (World.alloc_heap_new w _)
  have hI1 : I [] W1 := by rw [← hW1]; exact hI.alloc _ (hI.alloc _ h0)
  have hb1 : Below w0.heap.size w0 W1 := by
    rw [← hW1]; exact hb0.trans ((((Below.refl _ w).alloc (Nat.le_refl _) _).alloc (by simp) _).mono hb0.size)
  have hz1 : w.heap.size ≤ W1.heap.size := by rw [← hW1]; simp; omega
  refine ⟨w.heap.size + 1, [{ target := .collected w.heap.size, args := #[] }], W1, { target := .fn (.func gf) lb, args := #[.func (.yield (w.heap.size + 1)) #[] #[]] }, W1, gf,
    #[.func (.yield (w.heap.size + 1)) #[] #[]] ++ lb, W1, ?_, ?_, ?_, ?_, fun _ => h1, ?_⟩
  · rw [← hW1, hrec]; exact run_enterLoop_outer _ _ _ _ _
  · simp only [resolve, hg]
    simp [go_sem]
  · intro f' hf'; simp [Target.leads] at hf'; subst hf'; exact hFg
  · simp [invoke, go_sem, eg]
  · have hnw : ∀ {A B' : World} {row : Option Nat}, (∀ r, row = some r → W1.heap.size ≤ r ∧ ∃ o : Obj, A.heap[r]? = some o ∧ o.isWalk = true) → (∀ r, row = some r → w.heap.size ≤ r ∧ ∃ o : Obj, A.heap[r]? = some o ∧ o.isCells = false) :=
      fun hr r e => by obtain ⟨hBr, o, ho, hw⟩ := hr r e; exact ⟨by omega, o, ho, Obj.not_cells_of_walk hw⟩
    refine (hseq (w.heap.size + 1)
      (fun pre W => I pre W ∧ W.heap[w.heap.size + 1]? = some (.loop (rec .ready none)) ∧ W.heap[w.heap.size]? = some (.deferred (some [])))
      W1 hb1
      (fun s A B' row hs hg' hr => ⟨hI s A B' row hs.1 hg' (hnw (B' := B') hr), (grownBy_keeps hg' (fun r e => (hr r e).2) hs.2.1 rfl).trans hs.2.1, (grownBy_keeps hg' (fun r e => (hr r e).2) hs.2.2 rfl).trans hs.2.2⟩)
      (fun s A v hs => ⟨hIB s A v hs.1, (setCell_other A v (by omega)).trans hs.2.1, (setCell_other A v (by omega)).trans hs.2.2⟩)
      ?_ ⟨hI1, hL1, hK1⟩).mono ?_
    · rintro pre x rest W hx ⟨hi, hl, hk⟩
      have hlt : w.heap.size + 1 < W.heap.size := (Array.getElem?_eq_some_iff.1 hl).1
      have hy := run_yield (P := P) (args := encs x) hl (by rw [hrec]; exact hps x)
      rw [hrec] at hy
      refine ⟨fn, _, assign, body, hy, roundIn_of_wpIn hfn (hassign _ x W _ ⟨_, run_beginRound hl (by rw [hrec]), ?_⟩)⟩
      have hl2 : (W.putObj (w.heap.size + 1) (.loop { rec .ready none with state := .busy })).heap[w.heap.size + 1]? = some (.loop { rec .ready none with state := .busy }) := World.putObj_heap_same hlt
      have hk2 : (W.putObj (w.heap.size + 1) (.loop { rec .ready none with state := .busy })).heap[w.heap.size]? = some (.deferred (some [])) := (World.putObj_heap_other (by omega)).trans hk
      refine wpIn_mono (hbody _ pre x rest _ hx (hI.putObj _ hi (by omega) hl rfl)) ?_
      rintro e a3 W3 hp
      cases e with
      | normal =>
        obtain ⟨hk3, hkp3, hi3⟩ := hp
        have hl3 := hk3.same _ _ hl2 rfl
        have hd3 := hk3.same _ _ hk2 rfl
        have hr := run_endRound (P := P) none hl3
        have hlt3 : w.heap.size + 1 < W3.heap.size := (Array.getElem?_eq_some_iff.1 hl3).1
        have e2 : W3.heap[B]? = W.heap[B]? := hkp3.trans (World.putObj_heap_other (by omega))
        rw [hrec] at hr hl3
        refine ⟨_, _, hr, rfl, ⟨hI.putObj _ hi3 (by omega) hl3 rfl, ?_, (World.putObj_heap_other (by omega)).trans hd3⟩, (World.putObj_heap_other (by omega)).trans e2⟩
        rw [hrec]
        exact World.putObj_heap_same hlt3
      | ret => exact hp.elim
      | exit id => exact hp.elim
      | goto t => exact hp.elim
      | panic ch => exact hp.elim
      | outgrown => exact hp.elim
    · rintro e W2 ⟨⟨v, rfl⟩, hi, hl, hk⟩
      exact ⟨none, _, by have := run_endLoop (P := P) hl (by rw [hrec]; simp); rw [hrec] at this; exact this, hdone _ _ (Nat.le_refl _) (hI.putObj _ hi (by omega) hl rfl) ((World.putObj_heap_other (by omega)).trans hk)⟩

/-! ### the marks that such loops leave among the deferred calls -/
def Marked (B : Nat) : List Deferred → World → Prop
  | [], _ => True
  | d :: ds, W => (∃ r, B ≤ r ∧ d = { target := .collected r, args := #[] } ∧ W.heap[r]? = some (.deferred (some [])) ∧ ∀ d' ∈ ds, d'.target ≠ .collected r) ∧ Marked B ds W

theorem Marked.keep {B : Nat} {W W' : World} (hk : ∀ r, B ≤ r → W.heap[r]? = some (.deferred (some [])) → W'.heap[r]? = some (.deferred (some []))) : ∀ {ds : List Deferred}, Marked B ds W → Marked B ds W'
  | [], _ => trivial
  | d :: ds, h => by
    obtain ⟨⟨r, hB, hd, hr, hne⟩, h2⟩ := h
    exact ⟨⟨r, hB, hd, hk r hB hr, hne⟩, Marked.keep hk h2⟩
theorem Marked.below {B : Nat} {W W' : World} {ds : List Deferred} (h : Marked B ds W) (hb : Below W.heap.size W W') : Marked B ds W' :=
  h.keep fun r _ hr => (hb.block r (Array.getElem?_eq_some_iff.1 hr).1).trans hr
theorem Marked.setCell {B b : Nat} {W : World} {ds : List Deferred} (v : Value) (h : Marked B ds W) (hb : ∃ t u, Boxed W b t u) : Marked B ds (W.setCell ⟨b, 0, none⟩ v) :=
  h.keep fun r _ hr => (setCell_other W v (fun e => by
    obtain ⟨t, u, hx⟩ := hb
    subst e
    rw [show W.heap[r]? = _ from hx] at hr
    cases hr)).trans hr
theorem Marked.fresh {B : Nat} {W : World} : ∀ {ds : List Deferred}, Marked B ds W → ∀ d' ∈ ds, ∃ r, d'.target = .collected r ∧ r < W.heap.size
  | d :: ds, h, d', hm => by
    obtain ⟨⟨r, hB, hd, hr, hne⟩, h2⟩ := h
    rcases List.mem_cons.1 hm with rfl | hm
    · exact ⟨r, by rw [hd], (Array.getElem?_eq_some_iff.1 hr).1⟩
    · exact Marked.fresh h2 d' hm
theorem Marked.other {B r : Nat} {W : World} : ∀ {ds : List Deferred}, (∀ d' ∈ ds, d'.target ≠ .collected r) → Marked B ds W → Marked B ds (W.putObj r (.deferred none))
  | [], _, _ => trivial
  | d :: ds, hn, h => by
    obtain ⟨⟨r', hB, hd, hr, hne⟩, h2⟩ := h
    refine ⟨⟨r', hB, hd, ?_, hne⟩, Marked.other (fun d' hd' => hn d' (by simp [hd'])) h2⟩
    have hrr : r' ≠ r := fun e => hn d (by simp) (by rw [hd, e])
    exact (World.putObj_heap_other hrr).trans hr

theorem leaves_marks {fn : Func} {tmps : Array Value} {R : Ending → World → Prop} {B : Nat} : ∀ {ds : List Deferred} {W : World}, Marked B ds W →
    (∀ W', Below B W W' → LeavesInM F n P fn tmps R [] .returning W') → LeavesInM F n P fn tmps R ds .returning W
  | [], W, _, h => h W (Below.refl _ _)
  | d :: ds, W, hm, h => by
    obtain ⟨⟨r, hB, hd, hr, hne⟩, h2⟩ := hm
    refine ⟨by simp, .inl ⟨r, _, by rw [hd], run_takeDeferred hr, ?_⟩⟩
    have hb : Below B W (W.putObj r (.deferred none)) := (Below.refl B W).grown (grownBy_putObj' W r _) (by have := (Array.getElem?_eq_some_iff.1 hr).1; omega) (fun k e => by cases e; exact hB)
    exact leaves_marks (h2.other hne) fun W' hW' => h W' (hb.trans hW')

/-! ### all but some blocks lies as it lay -/
structure Only (X : Nat → Prop) (W0 W : World) : Prop where
  os : W.os = W0.os
  tape : W.tape = W0.tape
  output : W.output = W0.output
  size : W0.heap.size ≤ W.heap.size
  block : ∀ k, k < W0.heap.size → ¬ X k → W.heap[k]? = W0.heap[k]?

theorem Only.refl (X : Nat → Prop) (W : World) : Only X W W := ⟨rfl, rfl, rfl, Nat.le_refl _, fun _ _ _ => rfl⟩
theorem Only.trans {X : Nat → Prop} {A B C : World} (h : Only X A B) (k : Only X B C) : Only X A C :=
  ⟨k.os.trans h.os, k.tape.trans h.tape, k.output.trans h.output, Nat.le_trans h.size k.size, fun i hi hx => (k.block i (Nat.lt_of_lt_of_le hi h.size) hx).trans (h.block i hi hx)⟩
theorem Only.of_below {X : Nat → Prop} {B : Nat} {A C : World} (h : Below B A C) (hB : A.heap.size ≤ B) : Only X A C :=
  ⟨h.os, h.tape, h.output, h.size, fun i hi _ => h.block i (by omega)⟩
theorem Only.then {X : Nat → Prop} {A B C : World} (h : Only X A B) (k : Below B.heap.size B C) : Only X A C := h.trans (Only.of_below k (Nat.le_refl _))
theorem Only.set_ {X : Nat → Prop} {A B : World} (h : Only X A B) {b : Nat} (v : Value) (hb : X b ∨ A.heap.size ≤ b) : Only X A (B.setCell ⟨b, 0, none⟩ v) :=
  ⟨h.os, h.tape, h.output, by simpa [World.setCell] using h.size, fun i hi hx => (setCell_other B v (fun e => by subst e; rcases hb with hb | hb; exact hx hb; omega)).trans (h.block i hi hx)⟩
theorem Only.grown {X : Nat → Prop} {A B C : World} {row : Option Nat} (h : Only X A B) (hg : B.grownBy C row) (hr : ∀ r, row = some r → X r ∨ A.heap.size ≤ r) : Only X A C :=
  ⟨hg.os.trans h.os, hg.tape.trans h.tape, hg.output.trans h.output, Nat.le_trans h.size hg.size, fun i hi hx => (hg.block i (Nat.lt_of_lt_of_le hi h.size) (fun e => by rcases hr i e.symm with hb | hb; exact hx hb; omega)).trans (h.block i hi hx)⟩
theorem Only.below {X : Nat → Prop} {A C : World} {B : Nat} (h : Only X A C) (hX : ∀ k, X k → B ≤ k) (hB : B ≤ A.heap.size) : Below B A C :=
  ⟨h.os, h.tape, h.output, h.size, fun i hi => h.block i (by omega) (fun hx => by have := hX i hx; omega)⟩
theorem Only.boxed {X : Nat → Prop} {A C : World} (h : Only X A C) {b t : Nat} {v : Value} (hb : Boxed A b t v) (hx : ¬ X b) : Boxed C b t v := (h.block b hb.lt hx).trans hb
theorem Marked.only {B : Nat} {X : Nat → Prop} {A C : World} {ds : List Deferred} (h : Marked B ds A) (k : Only X A C) (hX : ∀ r, X r → A.heap[r]? ≠ some (.deferred (some []))) : Marked B ds C :=
  h.keep fun r _ hr => (k.block r (Array.getElem?_eq_some_iff.1 hr).1 (fun hx => hX r hx hr)).trans hr
theorem boxed_not_mark {A : World} {b t : Nat} {v : Value} (hb : Boxed A b t v) : A.heap[b]? ≠ some (.deferred (some [])) := by
  rw [show A.heap[b]? = _ from hb]; intro h; cases h
end Go.Proofs.YtedfdphapcanoaaGreatDoor
