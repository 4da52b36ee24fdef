/- Several texts of this claim, one behind the other. -/
import Derived.Test.YtilfcikhipadpaaGreatDoorK1a
import Derived.RangeFuncNested
import Derived.RangeFuncBound
import Derived.RangeFuncCalls
import Derived.RangeFuncLeaves
import Derived.Shelf.Abstract
import Derived.Shelf.RegionOpen
import Derived.WalkKit
import Derived.OwnWalkIn
import Derived.TacticsInMore
import Derived.LoopNIn
import Derived.LoopIn
import Derived.Test.YtilfcikhipadpaaGreatDoorProg
import Derived.Maps.AppendAt
import Derived.Deep.Upon

section
/- Blocks that are known whole, carried over new blocks and calls. No program. -/
set_option linter.unusedVariables false
namespace Go.Proofs.YtilfcikhipadpaaGreatDoor
open Go.RowKit

theorem Cells.up {a c d : World} {b : Nat} {cs : Array Value} {T : TypeId} (h : Cells a b cs T) (k : Below a.heap.size a c) (j : Below c.heap.size c d) : Cells d b cs T := Cells.below j (Cells.below k h)
end Go.Proofs.YtilfcikhipadpaaGreatDoor
end

section
/- A range over an iterator all of whose elements are known, whose body always goes on, and which may write its own captured box ahead of the rounds. (Turned from the kit's law for ranges over functions.) -/
set_option linter.unusedVariables false
namespace Go.Proofs.YtilfcikhipadpaaGreatDoor
open Go.RowKit Go.Shelf

/-- the iterator hands over just xs; B: its own captured box, which it may write; a round keeps that box -/
def SeqAll {α : Type} (F : Fence) (n : Nat) (P : Program) (g : Nat) (lb : Array Value) (encs : α → Array Value) (B : Nat) (xs : List α) (w : World) : Prop :=
  ∀ (l : Nat) (J : List α → World → Prop) (W : World), Below w.heap.size w W → AbidesFrom W.heap.size J → (∀ s A v, J s A → J s (A.setCell ⟨B, 0, none⟩ v)) →
    (∀ pre x rest W1, xs = pre ++ x :: rest → J pre W1 → YieldAt F (n - 1) P l (encs x) W1 fun e W' => e = .returned (.bool true) ∧ J (pre ++ [x]) W' ∧ W'.heap[B]? = W1.heap[B]?) →
    J [] W →
    CallsIn F n P g (#[.func (.yield l) #[] #[]] ++ lb) W fun e W' => (∃ v, e = .returned v) ∧ J xs W'

/-- how a round ends: it goes on -/
def allPost {α : Type} (B : Nat) (I : List α → World → Prop) (xs : List α) (W : World) : Exit → Act → World → Prop
  | .normal, _, W' => KeepsOthers W W' ∧ W'.heap[B]? = W.heap[B]? ∧ I xs W'
  | _, _, _ => False

theorem KeepsOthers.of_below {W W' : World} (h : Below W.heap.size W W') : KeepsOthers W W' :=
  ⟨h.size, fun k o hk _ => (h.block k (Array.getElem?_eq_some_iff.1 hk).1).trans hk⟩

theorem setCell_other (W : World) {B k : Nat} (v : Value) (h : k ≠ B) : (W.setCell ⟨B, 0, none⟩ v).heap[k]? = W.heap[k]? := Below.heap_setCell W ⟨B, 0, none⟩ v k h

variable {F : Fence} {n : Nat} {P : Program}

theorem wpIn_rangeFunc_all {α : Type} {g : Operand} {ps : Array Tmp} {assign body : Code} {Q : Exit → Act → World → Prop} {a : Act} {w : World}
    (hro : F.round = none) (h1 : 1 ≤ n) {gf : Nat} {lb : Array Value} (hg : a.eval g = .func (.func gf) #[] lb) (hFg : F.fn gf) (eg : ∀ args w, (callFunc gf args).run P w = .ok (.enter gf args) w)
    {encs : α → Array Value} {B : Nat} {xs : List α} {w0 : World} (hseq : SeqAll F (n - 1) P gf lb encs B xs w0) (hB : B < w.heap.size) (hb0 : Below w0.heap.size w0 w) (hps : ∀ x, (encs x).size = ps.size)
    (I : List α → World → Prop) (hI : OwnFrom w.heap.size I) (hIB : ∀ s A v, I s A → I s (A.setCell ⟨B, 0, none⟩ v)) (h0 : I [] w) (a₁ : α → Act)
    (hassign : ∀ (l : Nat) (x : α) (W : World) (K : Act → World → Prop), K (a₁ x) W →
      assign.wpIn (F.inRound l) (n - 1 - 1) P (Exit.then K (fun _ _ _ => False)) { tmps := (ps.zip (encs x)).foldl (fun t (p, v) => t.setIfInBounds p v) a.tmps, defers := [] } W)
    (hbody : ∀ (l : Nat) (pre : List α) (x : α) (rest : List α) (W : World), xs = pre ++ x :: rest → I pre W → body.wpIn (F.inRound l) (n - 1 - 1) P (allPost B I (pre ++ [x]) W) (a₁ x) W)
    (hdone : ∀ (D : Nat) (W : World), w.heap.size ≤ D → I xs W → W.heap[D]? = some (.deferred (some [])) → Q .normal { a with defers := { target := .collected D, args := #[] } :: a.defers } W) :
    (Code.rangeFunc g ps assign body).wpIn F n P Q a w := by
  refine wpIn_rangeFunc ?_
  intro fn hfn
  rw [hro]
  obtain ⟨rec, hrec⟩ : ∃ rec : LoopState → Option Code → Loop, rec = fun st pe => { state := st, pending := pe, fn, tmps := a.tmps, params := ps, assign, body, defers := w.heap.size } := ⟨_, rfl⟩
  obtain ⟨W1, hW1⟩ : ∃ W1, (w.alloc (.deferred (some []))).alloc (.loop (rec .ready none)) = W1 := ⟨_, rfl⟩
  have hL1 : W1.heap[w.heap.size + 1]? = some (.loop (rec .ready none)) := by
    rw [← hW1]; have := World.alloc_heap_new (w.alloc (.deferred (some []))) (.loop (rec .ready none)); rwa [World.size_alloc] at this
  have hK1 : W1.heap[w.heap.size]? = some (.deferred (some [])) := by
    rw [← hW1]; exact (Below.heap_alloc _ _ _ (by simp)).trans (World.alloc_heap_new w _)
  have hI1 : I [] W1 := by rw [← hW1]; exact hI.alloc _ (hI.alloc _ h0)
  have hb1 : Below w0.heap.size w0 W1 := by
    rw [← hW1]; exact hb0.trans ((((Below.refl _ w).alloc (Nat.le_refl _) _).alloc (by simp) _).mono hb0.size)
  have hz1 : w.heap.size ≤ W1.heap.size := by rw [← hW1]; simp; omega
  refine ⟨w.heap.size + 1, [{ target := .collected w.heap.size, args := #[] }], W1, { target := .fn (.func gf) lb, args := #[.func (.yield (w.heap.size + 1)) #[] #[]] }, W1, gf,
    #[.func (.yield (w.heap.size + 1)) #[] #[]] ++ lb, W1, ?_, ?_, ?_, ?_, fun _ => h1, ?_⟩
  · rw [← hW1, hrec]; exact run_enterLoop_outer _ _ _ _ _
  · simp only [resolve, hg]
    simp [go_sem]
  · intro f' hf'; simp [Target.leads] at hf'; subst hf'; exact hFg
  · simp [invoke, go_sem, eg]
  · have hnw : ∀ {A B' : World} {row : Option Nat}, (∀ r, row = some r → W1.heap.size ≤ r ∧ ∃ o : Obj, A.heap[r]? = some o ∧ o.isWalk = true) → (∀ r, row = some r → w.heap.size ≤ r ∧ ∃ o : Obj, A.heap[r]? = some o ∧ o.isCells = false) :=
      fun hr r e => by obtain ⟨hBr, o, ho, hw⟩ := hr r e; exact ⟨by omega, o, ho, Obj.not_cells_of_walk hw⟩
    refine (hseq (w.heap.size + 1)
      (fun pre W => I pre W ∧ W.heap[w.heap.size + 1]? = some (.loop (rec .ready none)) ∧ W.heap[w.heap.size]? = some (.deferred (some [])))
      W1 hb1
      (fun s A B' row hs hg' hr => ⟨hI s A B' row hs.1 hg' (hnw (B' := B') hr), (grownBy_keeps hg' (fun r e => (hr r e).2) hs.2.1 rfl).trans hs.2.1, (grownBy_keeps hg' (fun r e => (hr r e).2) hs.2.2 rfl).trans hs.2.2⟩)
      (fun s A v hs => ⟨hIB s A v hs.1, (setCell_other A v (by omega)).trans hs.2.1, (setCell_other A v (by omega)).trans hs.2.2⟩)
      ?_ ⟨hI1, hL1, hK1⟩).mono ?_
    · rintro pre x rest W hx ⟨hi, hl, hk⟩
      have hlt : w.heap.size + 1 < W.heap.size := (Array.getElem?_eq_some_iff.1 hl).1
      have hy := run_yield (P := P) (args := encs x) hl (by rw [hrec]; exact hps x)
      rw [hrec] at hy
      refine ⟨fn, _, assign, body, hy, roundIn_of_wpIn hfn (hassign _ x W _ ⟨_, run_beginRound hl (by rw [hrec]), ?_⟩)⟩
      have hl2 : (W.putObj (w.heap.size + 1) (.loop { rec .ready none with state := .busy })).heap[w.heap.size + 1]? = some (.loop { rec .ready none with state := .busy }) := World.putObj_heap_same hlt
      have hk2 : (W.putObj (w.heap.size + 1) (.loop { rec .ready none with state := .busy })).heap[w.heap.size]? = some (.deferred (some [])) := (World.putObj_heap_other (by omega)).trans hk
      refine wpIn_mono (hbody _ pre x rest _ hx (hI.putObj _ hi (by omega) hl rfl)) ?_
      rintro e a3 W3 hp
      cases e with
      | normal =>
        obtain ⟨hk3, hkp3, hi3⟩ := hp
        have hl3 := hk3.same _ _ hl2 rfl
        have hd3 := hk3.same _ _ hk2 rfl
        have hr := run_endRound (P := P) none hl3
        have hlt3 : w.heap.size + 1 < W3.heap.size := (Array.getElem?_eq_some_iff.1 hl3).1
        have e2 : W3.heap[B]? = W.heap[B]? := hkp3.trans (World.putObj_heap_other (by omega))
        rw [hrec] at hr hl3
        refine ⟨_, _, hr, rfl, ⟨hI.putObj _ hi3 (by omega) hl3 rfl, ?_, (World.putObj_heap_other (by omega)).trans hd3⟩, (World.putObj_heap_other (by omega)).trans e2⟩
        rw [hrec]
        exact World.putObj_heap_same hlt3
      | ret => exact hp.elim
      | exit id => exact hp.elim
      | goto t => exact hp.elim
      | panic ch => exact hp.elim
      | outgrown => exact hp.elim
    · rintro e W2 ⟨⟨v, rfl⟩, hi, hl, hk⟩
      exact ⟨none, _, by have := run_endLoop (P := P) hl (by rw [hrec]; simp); rw [hrec] at this; exact this, hdone _ _ (Nat.le_refl _) (hI.putObj _ hi (by omega) hl rfl) ((World.putObj_heap_other (by omega)).trans hk)⟩

/-! ### the marks that such loops leave among the deferred calls -/
def Marked (B : Nat) : List Deferred → World → Prop
  | [], _ => True
  | d :: ds, W => (∃ r, B ≤ r ∧ d = { target := .collected r, args := #[] } ∧ W.heap[r]? = some (.deferred (some [])) ∧ ∀ d' ∈ ds, d'.target ≠ .collected r) ∧ Marked B ds W

theorem Marked.keep {B : Nat} {W W' : World} (hk : ∀ r, B ≤ r → W.heap[r]? = some (.deferred (some [])) → W'.heap[r]? = some (.deferred (some []))) : ∀ {ds : List Deferred}, Marked B ds W → Marked B ds W'
  | [], _ => trivial
  | d :: ds, h => by
    obtain ⟨⟨r, hB, hd, hr, hne⟩, h2⟩ := h
    exact ⟨⟨r, hB, hd, hk r hB hr, hne⟩, Marked.keep hk h2⟩
theorem Marked.below {B : Nat} {W W' : World} {ds : List Deferred} (h : Marked B ds W) (hb : Below W.heap.size W W') : Marked B ds W' :=
  h.keep fun r _ hr => (hb.block r (Array.getElem?_eq_some_iff.1 hr).1).trans hr
theorem Marked.setCell {B b : Nat} {W : World} {ds : List Deferred} (v : Value) (h : Marked B ds W) (hb : ∃ t u, Boxed W b t u) : Marked B ds (W.setCell ⟨b, 0, none⟩ v) :=
  h.keep fun r _ hr => (setCell_other W v (fun e => by
    obtain ⟨t, u, hx⟩ := hb
    subst e
    rw [show W.heap[r]? = _ from hx] at hr
    cases hr)).trans hr
theorem Marked.fresh {B : Nat} {W : World} : ∀ {ds : List Deferred}, Marked B ds W → ∀ d' ∈ ds, ∃ r, d'.target = .collected r ∧ r < W.heap.size
  | d :: ds, h, d', hm => by
    obtain ⟨⟨r, hB, hd, hr, hne⟩, h2⟩ := h
    rcases List.mem_cons.1 hm with rfl | hm
    · exact ⟨r, by rw [hd], (Array.getElem?_eq_some_iff.1 hr).1⟩
    · exact Marked.fresh h2 d' hm
theorem Marked.other {B r : Nat} {W : World} : ∀ {ds : List Deferred}, (∀ d' ∈ ds, d'.target ≠ .collected r) → Marked B ds W → Marked B ds (W.putObj r (.deferred none))
  | [], _, _ => trivial
  | d :: ds, hn, h => by
    obtain ⟨⟨r', hB, hd, hr, hne⟩, h2⟩ := h
    refine ⟨⟨r', hB, hd, ?_, hne⟩, Marked.other (fun d' hd' => hn d' (by simp [hd'])) h2⟩
    have hrr : r' ≠ r := fun e => hn d (by simp) (by rw [hd, e])
    exact (World.putObj_heap_other hrr).trans hr

theorem leaves_marks {fn : Func} {tmps : Array Value} {R : Ending → World → Prop} {B : Nat} : ∀ {ds : List Deferred} {W : World}, Marked B ds W →
    (∀ W', Below B W W' → LeavesInM F n P fn tmps R [] .returning W') → LeavesInM F n P fn tmps R ds .returning W
  | [], W, _, h => h W (Below.refl _ _)
  | d :: ds, W, hm, h => by
    obtain ⟨⟨r, hB, hd, hr, hne⟩, h2⟩ := hm
    refine ⟨by simp, .inl ⟨r, _, by rw [hd], run_takeDeferred hr, ?_⟩⟩
    have hb : Below B W (W.putObj r (.deferred none)) := (Below.refl B W).grown (grownBy_putObj' W r _) (by have := (Array.getElem?_eq_some_iff.1 hr).1; omega) (fun k e => by cases e; exact hB)
    exact leaves_marks (h2.other hne) fun W' hW' => h W' (hb.trans hW')

/-! ### all but some blocks lies as it lay -/
structure Only (X : Nat → Prop) (W0 W : World) : Prop where
  os : W.os = W0.os
  tape : W.tape = W0.tape
  output : W.output = W0.output
  size : W0.heap.size ≤ W.heap.size
  block : ∀ k, k < W0.heap.size → ¬ X k → W.heap[k]? = W0.heap[k]?

theorem Only.refl (X : Nat → Prop) (W : World) : Only X W W := ⟨rfl, rfl, rfl, Nat.le_refl _, fun _ _ _ => rfl⟩
theorem Only.trans {X : Nat → Prop} {A B C : World} (h : Only X A B) (k : Only X B C) : Only X A C :=
  ⟨k.os.trans h.os, k.tape.trans h.tape, k.output.trans h.output, Nat.le_trans h.size k.size, fun i hi hx => (k.block i (Nat.lt_of_lt_of_le hi h.size) hx).trans (h.block i hi hx)⟩
theorem Only.of_below {X : Nat → Prop} {B : Nat} {A C : World} (h : Below B A C) (hB : A.heap.size ≤ B) : Only X A C :=
  ⟨h.os, h.tape, h.output, h.size, fun i hi _ => h.block i (by omega)⟩
theorem Only.then {X : Nat → Prop} {A B C : World} (h : Only X A B) (k : Below B.heap.size B C) : Only X A C := h.trans (Only.of_below k (Nat.le_refl _))
theorem Only.set_ {X : Nat → Prop} {A B : World} (h : Only X A B) {b : Nat} (v : Value) (hb : X b ∨ A.heap.size ≤ b) : Only X A (B.setCell ⟨b, 0, none⟩ v) :=
  ⟨h.os, h.tape, h.output, by simpa [World.setCell] using h.size, fun i hi hx => (setCell_other B v (fun e => by subst e; rcases hb with hb | hb; exact hx hb; omega)).trans (h.block i hi hx)⟩
theorem Only.grown {X : Nat → Prop} {A B C : World} {row : Option Nat} (h : Only X A B) (hg : B.grownBy C row) (hr : ∀ r, row = some r → X r ∨ A.heap.size ≤ r) : Only X A C :=
  ⟨hg.os.trans h.os, hg.tape.trans h.tape, hg.output.trans h.output, Nat.le_trans h.size hg.size, fun i hi hx => (hg.block i (Nat.lt_of_lt_of_le hi h.size) (fun e => by rcases hr i e.symm with hb | hb; exact hx hb; omega)).trans (h.block i hi hx)⟩
theorem Only.below {X : Nat → Prop} {A C : World} {B : Nat} (h : Only X A C) (hX : ∀ k, X k → B ≤ k) (hB : B ≤ A.heap.size) : Below B A C :=
  ⟨h.os, h.tape, h.output, h.size, fun i hi => h.block i (by omega) (fun hx => by have := hX i hx; omega)⟩
theorem Only.boxed {X : Nat → Prop} {A C : World} (h : Only X A C) {b t : Nat} {v : Value} (hb : Boxed A b t v) (hx : ¬ X b) : Boxed C b t v := (h.block b hb.lt hx).trans hb
theorem Marked.only {B : Nat} {X : Nat → Prop} {A C : World} {ds : List Deferred} (h : Marked B ds A) (k : Only X A C) (hX : ∀ r, X r → A.heap[r]? ≠ some (.deferred (some []))) : Marked B ds C :=
  h.keep fun r _ hr => (k.block r (Array.getElem?_eq_some_iff.1 hr).1 (fun hx => hX r hx hr)).trans hr
theorem boxed_not_mark {A : World} {b t : Nat} {v : Value} (hb : Boxed A b t v) : A.heap[b]? ≠ some (.deferred (some [])) := by
  rw [show A.heap[b]? = _ from hb]; intro h; cases h
end Go.Proofs.YtilfcikhipadpaaGreatDoor
end

section
/- Rows of structs (of any kind): a slice of one's own, append. -/
set_option linter.unusedVariables false
set_option linter.unusedSimpArgs false
namespace Go.Proofs.YtilfcikhipadpaaGreatDoor
open Go.RowKit Go.Lib
attribute [local go_sem] Oper.semAt_some

/-- a kind of rows: how many cells, the element's type, the slice's, the zero value, the cells -/
structure RowK (α : Type) where
  k : Nat
  T : TypeId
  S : TypeId
  bytes : Nat
  z : Value
  cells : α → Array Value
  size : ∀ a, (cells a).size = k
  one : ∀ a, ∀ v ∈ (cells a).toList, v.oneCell' = true
  pos : 0 < k
  tS : Tryz.prog.underlying S = some (.slice T)
  info : (Tryz.prog.info? T).map (fun i => (i.zero, i.size, i.bytes)) = some (some z, k, bytes)
  zs : z.cells.size = k
  few : bytes ≤ 1024
namespace RowK
variable {α : Type} (K : RowK α)
theorem parts : ∃ i, Tryz.prog.info? K.T = some i ∧ i.zero = some K.z ∧ i.size = K.k ∧ i.bytes = K.bytes := by
  have h := K.info
  cases hq : Tryz.prog.info? K.T with
  | none => rw [hq] at h; cases h
  | some i =>
    rw [hq] at h
    simp only [Option.map_some, Option.some.injEq, Prod.mk.injEq] at h
    exact ⟨i, rfl, h.1, h.2.1, h.2.2⟩
theorem len (a : α) : (K.cells a).toList.length = K.k := by rw [Array.length_toList]; exact K.size a
/-- the cells of some, one behind the other -/
def all (l : List α) : List Value := l.flatMap fun r => (K.cells r).toList
theorem all_length (l : List α) : (K.all l).length = l.length * K.k := by
  induction l with
  | nil => simp [all]
  | cons a t ih =>
    have e : K.all (a :: t) = (K.cells a).toList ++ K.all t := rfl
    rw [e, List.length_append, K.len, ih, List.length_cons, Nat.add_mul, Nat.one_mul, Nat.add_comm]
theorem all_append (a b : List α) : K.all (a ++ b) = K.all a ++ K.all b := by simp [all]
theorem all_drop (l : List α) (n : Nat) : (K.all l).drop (n * K.k) = K.all (l.drop n) := by
  induction l generalizing n with
  | nil => simp [all]
  | cons a t ih =>
    cases n with
    | zero => simp
    | succ n =>
      have e : K.all (a :: t) = (K.cells a).toList ++ K.all t := rfl
      rw [e, List.drop_append, K.len, List.drop_of_length_le (by rw [K.len, Nat.add_mul]; omega), List.drop_succ_cons, List.nil_append, ← ih n]
      congr 1
      rw [Nat.add_mul, Nat.one_mul]; omega
theorem all_at {l : List α} {j i : Nat} (h : j < l.length) (hi : i < K.k) : (K.all l)[j * K.k + i]? = (K.cells l[j]).toList[i]? := by
  have h1 : (K.all l)[j * K.k + i]? = ((K.all l).drop (j * K.k))[i]? := by rw [List.getElem?_drop]
  rw [h1, all_drop, List.drop_eq_getElem_cons h]
  have e : K.all (l[j] :: l.drop (j + 1)) = (K.cells l[j]).toList ++ K.all (l.drop (j + 1)) := rfl
  rw [e, List.getElem?_append_left (by rw [K.len]; exact hi)]
theorem ones (l : List α) : ∀ v ∈ K.all l, v.oneCell' = true := fun v hv => by
  obtain ⟨r, _, hr⟩ := List.mem_flatMap.1 hv
  exact K.one r v hr

/-- a slice of one's own -/
def Own (W : World) (v : Value) (l : List α) : Prop := W.ownsRow 0 K.T K.k v l.length (K.all l)
variable {K}
theorem Own.nil (W : World) : K.Own W (.slice none 0 0) [] := ⟨by simp [all], Or.inl ⟨rfl, rfl⟩⟩
theorem Own.row {W : World} {v : Value} {l : List α} (h : K.Own W v l) {g : Nat} (k : v.ownBlock = some g) : g < W.heap.size := (World.ownsRow.lt h g k).2
theorem Own.same {W W' : World} {v : Value} {l : List α} (h : K.Own W v l) (k : ∀ g, v.ownBlock = some g → W'.heap[g]? = W.heap[g]?) : K.Own W' v l := by
  refine ⟨h.1, ?_⟩
  rcases h.2 with hn | ⟨g, cap, cur, hv, hb, hg, r⟩
  · exact Or.inl hn
  · exact Or.inr ⟨g, cap, cur, hv, hb, (k g (by rw [hv]; rfl)).trans hg, r⟩
theorem Own.below {W W' : World} {v : Value} {l : List α} (h : K.Own W v l) (k : Below W.heap.size W W') : K.Own W' v l := h.same fun g hg => k.block g (h.row hg)
theorem Own.slice {W : World} {v : Value} {l : List α} (h : K.Own W v l) : ∃ A c, v = .slice A l.length c ∧ l.length ≤ c := by
  rcases h.2 with ⟨h1, h2⟩ | ⟨g, c, cur, h1, _, _, h3, _⟩
  · exact ⟨none, 0, by rw [h1, h2], by rw [h2]; exact Nat.le_refl _⟩
  · exact ⟨_, c, h1, h3⟩
theorem Own.cell {W : World} {v : Value} {l : List α} (h : K.Own W v l) (hn : 0 < l.length) : ∃ g c, v = .slice (some ⟨g, 0, none⟩) l.length c ∧ g < W.heap.size ∧ l.length ≤ c ∧ c ≤ maxLen ∧ ∀ i u, (K.all l)[i]? = some u → W.cell? ⟨g, i, none⟩ = some u := by
  rcases h.2 with ⟨_, h0⟩ | ⟨g, cap, cur, hv, hb, hg, h1, h2, h3, h4⟩
  · omega
  · refine ⟨g, cap, hv, (Array.getElem?_eq_some_iff.1 hg).1, h1, h2, fun i u hu => ?_⟩
    rw [Lib.cell_of_heap hg]
    rw [← h4, List.getElem?_take] at hu
    split at hu
    · simpa using hu
    · cases hu
theorem Own.slot {W : World} {g n c : Nat} {l : List α} (h : K.Own W (.slice (some ⟨g, 0, none⟩) n c) l) {j : Nat} (hj : j < l.length) {r : α} (hr : l[j]? = some r) {i : Nat} {u : Value} (hi : i < K.k) (hu : (K.cells r).toList[i]? = some u) : W.cell? ⟨g, j * K.k + i, none⟩ = some u := by
  obtain ⟨g', c', hv, _, _, _, hc⟩ := h.cell (by omega)
  cases hv
  refine hc _ _ ?_
  rw [K.all_at hj hi, (List.getElem?_eq_some_iff.1 hr).2]
  exact hu

/-- a slice that is read: none, or rows from an address on -/
def Read (K : RowK α) (W : World) (x : Value) (m : List α) : Prop := (x = .slice none 0 0 ∧ m = []) ∨ ∃ a c, x = .slice (some a) m.length c ∧ ∀ j u, (K.all m)[j]? = some u → W.cell? (a.add j) = some u
theorem Read.one {W : World} {vb : Nat} {r : α} (h : Cells W vb (K.cells r) K.T) : K.Read W (.slice (some ⟨vb, 0, none⟩) 1 1) [r] :=
  Or.inr ⟨_, _, rfl, fun j u hu => by
    have e : K.all [r] = (K.cells r).toList := by simp [all]
    rw [e] at hu
    rw [Addr.add_lit, Nat.zero_add, Lib.cell_of_heap h]
    simpa using hu⟩
theorem Read.of {W : World} {v : Value} {l : List α} (h : K.Own W v l) : K.Read W v l := by
  by_cases hl : 0 < l.length
  · obtain ⟨g, c, hv, _, _, _, hc⟩ := h.cell hl
    exact Or.inr ⟨_, c, hv, fun j u hu => by rw [Addr.add_lit, Nat.zero_add]; exact hc j u hu⟩
  · have h0 : l = [] := List.length_eq_zero_iff.1 (by omega)
    subst h0
    rcases h.2 with ⟨h1, _⟩ | ⟨g, c, cur, hv, _⟩
    · exact Or.inl ⟨h1, rfl⟩
    · exact Or.inr ⟨_, c, hv, fun j u hu => by simp [all] at hu⟩

end RowK
end Go.Proofs.YtilfcikhipadpaaGreatDoor
end

section
/- Rows of structs (of any kind) that are read by their index. -/
set_option linter.unusedVariables false
namespace Go.Proofs.YtilfcikhipadpaaGreatDoor
open Go.RowKit Go.Lib
namespace RowK
variable {α : Type} {K : RowK α}
/-- these lie at an address, one behind the other -/
def Has (K : RowK α) (W : World) (A : Option Addr) (l : List α) : Prop :=
  0 < l.length → ∃ g o, A = some (⟨g, o, none⟩ : Addr) ∧ g < W.heap.size ∧ ∀ i (hi : i < l.length) j u, (K.cells l[i]).toList[j]? = some u → W.cell? ⟨g, o + i * K.k + j, none⟩ = some u
theorem Has.below {W W' : World} {A : Option Addr} {l : List α} (h : K.Has W A l) (k : Below W.heap.size W W') : K.Has W' A l := fun hn => by
  obtain ⟨g, o, e, hg, hc⟩ := h hn
  exact ⟨g, o, e, Nat.lt_of_lt_of_le hg k.size, fun i hi j u hu => (k.cell (p := ⟨g, _, none⟩) hg).trans (hc i hi j u hu)⟩
theorem Has.nil {W : World} {A : Option Addr} : K.Has W A [] := fun h => absurd h (Nat.lt_irrefl 0)
theorem Own.has {W : World} {v : Value} {l : List α} (h : K.Own W v l) : ∃ A c, v = .slice A l.length c ∧ l.length ≤ c ∧ K.Has W A l := by
  by_cases hn : 0 < l.length
  · obtain ⟨g, c, hv, hg, hc, _, hcell⟩ := h.cell hn
    refine ⟨_, c, hv, hc, fun _ => ⟨g, 0, rfl, hg, fun i hi j u hu => ?_⟩⟩
    rw [Nat.zero_add]
    refine hcell _ _ ?_
    rw [K.all_at hi (by rw [← K.len l[i]]; exact (List.getElem?_eq_some_iff.1 hu).1)]
    exact hu
  · obtain ⟨A, c, hv, hc⟩ := h.slice
    exact ⟨A, c, hv, hc, fun h => absurd h hn⟩
/-- one more, read -/
theorem Has.at_ {W : World} {A : Option Addr} {l : List α} (h : K.Has W A l) {i : Nat} (hi : i < l.length) : ∃ g o, A = some (⟨g, o, none⟩ : Addr) ∧ g < W.heap.size ∧ ∀ j u, (K.cells l[i]).toList[j]? = some u → ∀ W', Below W.heap.size W W' → W'.cell? ⟨g, o + i * K.k + j, none⟩ = some u := by
  obtain ⟨g, o, e, hg, hc⟩ := h (by omega)
  exact ⟨g, o, e, hg, fun j u hu W' k => (k.cell (p := ⟨g, _, none⟩) hg).trans (hc i hi j u hu)⟩
end RowK
end Go.Proofs.YtilfcikhipadpaaGreatDoor
end
