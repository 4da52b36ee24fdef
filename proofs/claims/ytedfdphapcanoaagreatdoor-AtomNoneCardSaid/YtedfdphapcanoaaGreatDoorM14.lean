/- Several texts of this claim, one behind the other. -/
import Derived.RangeFuncNested
import Derived.RangeFuncBound
import Derived.RangeFuncCalls
import Derived.RangeFuncLeaves
import Derived.Shelf.Abstract
import Derived.Shelf.RegionOpen
import Derived.WalkKit
import Derived.OwnWalkIn
import Derived.TacticsInMore
import Derived.LoopNIn
import Derived.LoopIn
import Derived.Test.YtedfdphapcanoaaGreatDoorM0
import Derived.Test.YtedfdphapcanoaaGreatDoorM13

section
/- A range over an iterator all of whose elements are known, whose body always goes on, and which may write its own captured box ahead of the rounds. (Turned from the kit's law for ranges over functions.) -/
set_option linter.unusedVariables false
namespace Go.Proofs.YtedfdphapcanoaaGreatDoor
open Go.RowKit Go.Shelf

/-- the iterator hands over just xs; B: its own captured box, which it may write; a round keeps that box -/
def SeqAll {α : Type} (F : Fence) (n : Nat) (P : Program) (g : Nat) (lb : Array Value) (encs : α → Array Value) (B : Nat) (xs : List α) (w : World) : Prop :=
  ∀ (l : Nat) (J : List α → World → Prop) (W : World), Below w.heap.size w W → AbidesFrom W.heap.size J → (∀ s A v, J s A → J s (A.setCell ⟨B, 0, none⟩ v)) →
    (∀ pre x rest W1, xs = pre ++ x :: rest → J pre W1 → YieldAt F (n - 1) P l (encs x) W1 fun e W' => e = .returned (.bool true) ∧ J (pre ++ [x]) W' ∧ W'.heap[B]? = W1.heap[B]?) →
    J [] W →
    CallsIn F n P g (#[.func (.yield l) #[] #[]] ++ lb) W fun e W' => (∃ v, e = .returned v) ∧ J xs W'

/-- how a round ends: it goes on -/
def allPost {α : Type} (B : Nat) (I : List α → World → Prop) (xs : List α) (W : World) : Exit → Act → World → Prop
  | .normal, _, W' => KeepsOthers W W' ∧ W'.heap[B]? = W.heap[B]? ∧ I xs W'
  | _, _, _ => False

theorem KeepsOthers.of_below {W W' : World} (h : Below W.heap.size W W') : KeepsOthers W W' :=
  ⟨h.size, fun k o hk _ => (h.block k (Array.getElem?_eq_some_iff.1 hk).1).trans hk⟩

theorem setCell_other (W : World) {B k : Nat} (v : Value) (h : k ≠ B) : (W.setCell ⟨B, 0, none⟩ v).heap[k]? = W.heap[k]? := Below.heap_setCell W ⟨B, 0, none⟩ v k h

variable {F : Fence} {n : Nat} {P : Program}

theorem wpIn_rangeFunc_all {α : Type} {g : Operand} {ps : Array Tmp} {assign body : Code} {Q : Exit → Act → World → Prop} {a : Act} {w : World}
    (hro : F.round = none) (h1 : 1 ≤ n) {gf : Nat} {lb : Array Value} (hg : a.eval g = .func (.func gf) #[] lb) (hFg : F.fn gf) (eg : ∀ args w, (callFunc gf args).run P w = .ok (.enter gf args) w)
    {encs : α → Array Value} {B : Nat} {xs : List α} {w0 : World} (hseq : SeqAll F (n - 1) P gf lb encs B xs w0) (hB : B < w.heap.size) (hb0 : Below w0.heap.size w0 w) (hps : ∀ x, (encs x).size = ps.size)
    (I : List α → World → Prop) (hI : OwnFrom w.heap.size I) (hIB : ∀ s A v, I s A → I s (A.setCell ⟨B, 0, none⟩ v)) (h0 : I [] w) (a₁ : α → Act)
    (hassign : ∀ (l : Nat) (x : α) (W : World) (K : Act → World → Prop), K (a₁ x) W →
      assign.wpIn (F.inRound l) (n - 1 - 1) P (Exit.then K (fun _ _ _ => False)) { tmps := (ps.zip (encs x)).foldl (fun t (p, v) => t.setIfInBounds p v) a.tmps, defers := [] } W)
    (hbody : ∀ (l : Nat) (pre : List α) (x : α) (rest : List α) (W : World), xs = pre ++ x :: rest → I pre W → body.wpIn (F.inRound l) (n - 1 - 1) P (allPost B I (pre ++ [x]) W) (a₁ x) W)
    (hdone : ∀ (D : Nat) (W : World), w.heap.size ≤ D → I xs W → W.heap[D]? = some (.deferred (some [])) → Q .normal { a with defers := { target := .collected D, args := #[] } :: a.defers } W) :
    (Code.rangeFunc g ps assign body).wpIn F n P Q a w := by
  refine wpIn_rangeFunc ?_
  intro fn hfn
  rw [hro]
  obtain ⟨rec, hrec⟩ : ∃ rec : LoopState → Option Code → Loop, rec = fun st pe => { state := st, pending := pe, fn, tmps := a.tmps, params := ps, assign, body, defers := w.heap.size } := ⟨_, rfl⟩
  obtain ⟨W1, hW1⟩ : ∃ W1, (w.alloc (.deferred (some []))).alloc (.loop (rec .ready none)) = W1 := ⟨_, rfl⟩
  have hL1 : W1.heap[w.heap.size + 1]? = some (.loop (rec .ready none)) := by
    rw [← hW1]; have := World.alloc_heap_new (w.alloc (.deferred (some []))) (.loop (rec .ready none)); rwa [World.size_alloc] at this
  have hK1 : W1.heap[w.heap.size]? = some (.deferred (some [])) := by
    rw [← hW1]; exact (Below.heap_alloc _ _ _ (by simp)).trans (World.alloc_heap_new w _)
  have hI1 : I [] W1 := by rw [← hW1]; exact hI.alloc _ (hI.alloc _ h0)
  have hb1 : Below w0.heap.size w0 W1 := by
    rw [← hW1]; exact hb0.trans ((((Below.refl _ w).alloc (Nat.le_refl _) _).alloc (by simp) _).mono hb0.size)
  have hz1 : w.heap.size ≤ W1.heap.size := by rw [← hW1]; simp; omega
  refine ⟨w.heap.size + 1, [{ target := .collected w.heap.size, args := #[] }], W1, { target := .fn (.func gf) lb, args := #[.func (.yield (w.heap.size + 1)) #[] #[]] }, W1, gf,
    #[.func (.yield (w.heap.size + 1)) #[] #[]] ++ lb, W1, ?_, ?_, ?_, ?_, fun _ => h1, ?_⟩
  · rw [← hW1, hrec]; exact run_enterLoop_outer _ _ _ _ _
  · simp only [resolve, hg]
    simp [go_sem]
  · intro f' hf'; simp [Target.leads] at hf'; subst hf'; exact hFg
  · simp [invoke, go_sem, eg]
  · have hnw : ∀ {A B' : World} {row : Option Nat}, (∀ r, row = some r → W1.heap.size ≤ r ∧ ∃ o : Obj, A.heap[r]? = some o ∧ o.isWalk = true) → (∀ r, row = some r → w.heap.size ≤ r ∧ ∃ o : Obj, A.heap[r]? = some o ∧ o.isCells = false) :=
      fun hr r e => by obtain ⟨hBr, o, ho, hw⟩ := hr r e; exact ⟨by omega, o, ho, Obj.not_cells_of_walk hw⟩
    refine (hseq (w.heap.size + 1)
      (fun pre W => I pre W ∧ W.heap[w.heap.size + 1]? = some (.loop (rec .ready none)) ∧ W.heap[w.heap.size]? = some (.deferred (some [])))
      W1 hb1
      (fun s A B' row hs hg' hr => ⟨hI s A B' row hs.1 hg' (hnw (B' := B') hr), (grownBy_keeps hg' (fun r e => (hr r e).2) hs.2.1 rfl).trans hs.2.1, (grownBy_keeps hg' (fun r e => (hr r e).2) hs.2.2 rfl).trans hs.2.2⟩)
      (fun s A v hs => ⟨hIB s A v hs.1, (setCell_other A v (by omega)).trans hs.2.1, (setCell_other A v (by omega)).trans hs.2.2⟩)
      ?_ ⟨hI1, hL1, hK1⟩).mono ?_
    · rintro pre x rest W hx ⟨hi, hl, hk⟩
      have hlt : w.heap.size + 1 < W.heap.size := (Array.getElem?_eq_some_iff.1 hl).1
      have hy := run_yield (P := P) (args := encs x) hl (by rw [hrec]; exact hps x)
      rw [hrec] at hy
      refine ⟨fn, _, assign, body, hy, roundIn_of_wpIn hfn (hassign _ x W _ ⟨_, run_beginRound hl (by rw [hrec]), ?_⟩)⟩
      have hl2 : (W.putObj (w.heap.size + 1) (.loop { rec .ready none with state := .busy })).heap[w.heap.size + 1]? = some (.loop { rec .ready none with state := .busy }) := World.putObj_heap_same hlt
      have hk2 : (W.putObj (w.heap.size + 1) (.loop { rec .ready none with state := .busy })).heap[w.heap.size]? = some (.deferred (some [])) := (World.putObj_heap_other (by omega)).trans hk
      refine wpIn_mono (hbody _ pre x rest _ hx (hI.putObj _ hi (by omega) hl rfl)) ?_
      rintro e a3 W3 hp
      cases e with
      | normal =>
        obtain ⟨hk3, hkp3, hi3⟩ := hp
        have hl3 := hk3.same _ _ hl2 rfl
        have hd3 := hk3.same _ _ hk2 rfl
        have hr := run_endRound (P := P) none hl3
        have hlt3 : w.heap.size + 1 < W3.heap.size := (Array.getElem?_eq_some_iff.1 hl3).1
        have e2 : W3.heap[B]? = W.heap[B]? := hkp3.trans (World.putObj_heap_other (by omega))
        rw [hrec] at hr hl3
        refine ⟨_, _, hr, rfl, ⟨hI.putObj _ hi3 (by omega) hl3 rfl, ?_, (World.putObj_heap_other (by omega)).trans hd3⟩, (World.putObj_heap_other (by omega)).trans e2⟩
        rw [hrec]
        exact World.putObj_heap_same hlt3
      | ret => exact hp.elim
      | exit id => exact hp.elim
      | goto t => exact hp.elim
      | panic ch => exact hp.elim
      | outgrown => exact hp.elim
    · rintro e W2 ⟨⟨v, rfl⟩, hi, hl, hk⟩
      exact ⟨none, _, by have := run_endLoop (P := P) hl (by rw [hrec]; simp); rw [hrec] at this; exact this, hdone _ _ (Nat.le_refl _) (hI.putObj _ hi (by omega) hl rfl) ((World.putObj_heap_other (by omega)).trans hk)⟩

/-! ### the marks that such loops leave among the deferred calls -/
def Marked (B : Nat) : List Deferred → World → Prop
  | [], _ => True
  | d :: ds, W => (∃ r, B ≤ r ∧ d = { target := .collected r, args := #[] } ∧ W.heap[r]? = some (.deferred (some [])) ∧ ∀ d' ∈ ds, d'.target ≠ .collected r) ∧ Marked B ds W

theorem Marked.keep {B : Nat} {W W' : World} (hk : ∀ r, B ≤ r → W.heap[r]? = some (.deferred (some [])) → W'.heap[r]? = some (.deferred (some []))) : ∀ {ds : List Deferred}, Marked B ds W → Marked B ds W'
  | [], _ => trivial
  | d :: ds, h => by
    obtain ⟨⟨r, hB, hd, hr, hne⟩, h2⟩ := h
    exact ⟨⟨r, hB, hd, hk r hB hr, hne⟩, Marked.keep hk h2⟩
theorem Marked.below {B : Nat} {W W' : World} {ds : List Deferred} (h : Marked B ds W) (hb : Below W.heap.size W W') : Marked B ds W' :=
  h.keep fun r _ hr => (hb.block r (Array.getElem?_eq_some_iff.1 hr).1).trans hr
theorem Marked.setCell {B b : Nat} {W : World} {ds : List Deferred} (v : Value) (h : Marked B ds W) (hb : ∃ t u, Boxed W b t u) : Marked B ds (W.setCell ⟨b, 0, none⟩ v) :=
  h.keep fun r _ hr => (setCell_other W v (fun e => by
    obtain ⟨t, u, hx⟩ := hb
    subst e
    rw [show W.heap[r]? = _ from hx] at hr
    cases hr)).trans hr
theorem Marked.fresh {B : Nat} {W : World} : ∀ {ds : List Deferred}, Marked B ds W → ∀ d' ∈ ds, ∃ r, d'.target = .collected r ∧ r < W.heap.size
  | d :: ds, h, d', hm => by
    obtain ⟨⟨r, hB, hd, hr, hne⟩, h2⟩ := h
    rcases List.mem_cons.1 hm with rfl | hm
    · exact ⟨r, by rw [hd], (Array.getElem?_eq_some_iff.1 hr).1⟩
    · exact Marked.fresh h2 d' hm
theorem Marked.other {B r : Nat} {W : World} : ∀ {ds : List Deferred}, (∀ d' ∈ ds, d'.target ≠ .collected r) → Marked B ds W → Marked B ds (W.putObj r (.deferred none))
  | [], _, _ => trivial
  | d :: ds, hn, h => by
    obtain ⟨⟨r', hB, hd, hr, hne⟩, h2⟩ := h
    refine ⟨⟨r', hB, hd, ?_, hne⟩, Marked.other (fun d' hd' => hn d' (by simp [hd'])) h2⟩
    have hrr : r' ≠ r := fun e => hn d (by simp) (by rw [hd, e])
    exact (World.putObj_heap_other hrr).trans hr

theorem leaves_marks {fn : Func} {tmps : Array Value} {R : Ending → World → Prop} {B : Nat} : ∀ {ds : List Deferred} {W : World}, Marked B ds W →
    (∀ W', Below B W W' → LeavesInM F n P fn tmps R [] .returning W') → LeavesInM F n P fn tmps R ds .returning W
  | [], W, _, h => h W (Below.refl _ _)
  | d :: ds, W, hm, h => by
    obtain ⟨⟨r, hB, hd, hr, hne⟩, h2⟩ := hm
    refine ⟨by simp, .inl ⟨r, _, by rw [hd], run_takeDeferred hr, ?_⟩⟩
    have hb : Below B W (W.putObj r (.deferred none)) := (Below.refl B W).grown (grownBy_putObj' W r _) (by have := (Array.getElem?_eq_some_iff.1 hr).1; omega) (fun k e => by cases e; exact hB)
    exact leaves_marks (h2.other hne) fun W' hW' => h W' (hb.trans hW')

/-! ### all but some blocks lies as it lay -/
structure Only (X : Nat → Prop) (W0 W : World) : Prop where
  os : W.os = W0.os
  tape : W.tape = W0.tape
  output : W.output = W0.output
  size : W0.heap.size ≤ W.heap.size
  block : ∀ k, k < W0.heap.size → ¬ X k → W.heap[k]? = W0.heap[k]?

theorem Only.refl (X : Nat → Prop) (W : World) : Only X W W := ⟨rfl, rfl, rfl, Nat.le_refl _, fun _ _ _ => rfl⟩
theorem Only.trans {X : Nat → Prop} {A B C : World} (h : Only X A B) (k : Only X B C) : Only X A C :=
  ⟨k.os.trans h.os, k.tape.trans h.tape, k.output.trans h.output, Nat.le_trans h.size k.size, fun i hi hx => (k.block i (Nat.lt_of_lt_of_le hi h.size) hx).trans (h.block i hi hx)⟩
theorem Only.of_below {X : Nat → Prop} {B : Nat} {A C : World} (h : Below B A C) (hB : A.heap.size ≤ B) : Only X A C :=
  ⟨h.os, h.tape, h.output, h.size, fun i hi _ => h.block i (by omega)⟩
theorem Only.then {X : Nat → Prop} {A B C : World} (h : Only X A B) (k : Below B.heap.size B C) : Only X A C := h.trans (Only.of_below k (Nat.le_refl _))
theorem Only.set_ {X : Nat → Prop} {A B : World} (h : Only X A B) {b : Nat} (v : Value) (hb : X b ∨ A.heap.size ≤ b) : Only X A (B.setCell ⟨b, 0, none⟩ v) :=
  ⟨h.os, h.tape, h.output, by simpa [World.setCell] using h.size, fun i hi hx => (setCell_other B v (fun e => by subst e; rcases hb with hb | hb; exact hx hb; omega)).trans (h.block i hi hx)⟩
theorem Only.grown {X : Nat → Prop} {A B C : World} {row : Option Nat} (h : Only X A B) (hg : B.grownBy C row) (hr : ∀ r, row = some r → X r ∨ A.heap.size ≤ r) : Only X A C :=
  ⟨hg.os.trans h.os, hg.tape.trans h.tape, hg.output.trans h.output, Nat.le_trans h.size hg.size, fun i hi hx => (hg.block i (Nat.lt_of_lt_of_le hi h.size) (fun e => by rcases hr i e.symm with hb | hb; exact hx hb; omega)).trans (h.block i hi hx)⟩
theorem Only.below {X : Nat → Prop} {A C : World} {B : Nat} (h : Only X A C) (hX : ∀ k, X k → B ≤ k) (hB : B ≤ A.heap.size) : Below B A C :=
  ⟨h.os, h.tape, h.output, h.size, fun i hi => h.block i (by omega) (fun hx => by have := hX i hx; omega)⟩
theorem Only.boxed {X : Nat → Prop} {A C : World} (h : Only X A C) {b t : Nat} {v : Value} (hb : Boxed A b t v) (hx : ¬ X b) : Boxed C b t v := (h.block b hb.lt hx).trans hb
theorem Marked.only {B : Nat} {X : Nat → Prop} {A C : World} {ds : List Deferred} (h : Marked B ds A) (k : Only X A C) (hX : ∀ r, X r → A.heap[r]? ≠ some (.deferred (some []))) : Marked B ds C :=
  h.keep fun r _ hr => (k.block r (Array.getElem?_eq_some_iff.1 hr).1 (fun hx => hX r hx hr)).trans hr
theorem boxed_not_mark {A : World} {b t : Nat} {v : Value} (hb : Boxed A b t v) : A.heap[b]? ≠ some (.deferred (some [])) := by
  rw [show A.heap[b]? = _ from hb]; intro h; cases h
end Go.Proofs.YtedfdphapcanoaaGreatDoor
end

section
/- The package sums over this program: Add, the words of a text, Sum, Holds, Update, Updates. Conditions: texts below 2^46 bytes. -/
set_option linter.unusedVariables false
namespace Go.Proofs.YtedfdphapcanoaaGreatDoor
open Go.RowKit Go.Shelf
attribute [local go_sem] Oper.semAt_some

/-- two numbers, added, what runs over coming in again -/
def add1 (a b : Int) : Int := if 65535 < a + b then a + b - 65535 else a + b
theorem add1_bd {a b : Int} (h0 : 0 ≤ a ∧ a ≤ 65535) (h1 : 0 ≤ b ∧ b ≤ 65535) : 0 ≤ add1 a b ∧ add1 a b ≤ 65535 := by
  unfold add1; split <;> omega
/-- a text's words; an odd one has a byte 0 behind it -/
def words : List UInt8 → List Int
  | [] => []
  | [a] => [(a.toNat : Int) * 256]
  | a :: b :: t => ((a.toNat : Int) * 256 + (b.toNat : Int)) :: words t
def fold1 (n : Int) (l : List Int) : Int := l.foldl add1 n
theorem words_bd : ∀ (l : List UInt8), ∀ x ∈ words l, 0 ≤ x ∧ x ≤ 65535
  | [], x, h => by cases h
  | [a], x, h => by
    simp [words] at h; subst h
    have := a.toNat_lt; omega
  | a :: b :: t, x, h => by
    rcases List.mem_cons.1 h with rfl | h
    · have := a.toNat_lt; have := b.toNat_lt; omega
    · exact words_bd t x h
theorem fold1_bd : ∀ (l : List Int) (n : Int), 0 ≤ n ∧ n ≤ 65535 → (∀ x ∈ l, 0 ≤ x ∧ x ≤ 65535) → 0 ≤ fold1 n l ∧ fold1 n l ≤ 65535
  | [], n, h, _ => h
  | x :: l, n, h, hl => fold1_bd l (add1 n x) (add1_bd h (hl x (by simp))) (fun y hy => hl y (by simp [hy]))
theorem fold1_append (n : Int) (a b : List Int) : fold1 n (a ++ b) = fold1 (fold1 n a) b := by simp [fold1]
/-- the text with a byte 0 behind it, if it is odd -/
def even (l : List UInt8) : List UInt8 := if l.length % 2 = 1 then l ++ [0] else l
theorem even_cons (a b : UInt8) (t : List UInt8) : even (a :: b :: t) = a :: b :: even t := by
  have h : (t.length + 1 + 1) % 2 = t.length % 2 := by omega
  unfold even
  simp only [List.length_cons, h]
  split <;> rfl
theorem even_length : ∀ (l : List UInt8), (even l).length = 2 * (words l).length
  | [] => rfl
  | [a] => rfl
  | a :: b :: t => by
    rw [even_cons]
    have := even_length t
    simp only [words, List.length_cons, this]; omega
theorem even_word : ∀ (l : List UInt8) (k : Nat), k < (words l).length → be16 (even l) (2 * k) = (words l).getD k 0
  | [], k, h => by simp [words] at h
  | [a], k, h => by
    have : k = 0 := by simp [words] at h; omega
    subst this
    show ((a.toNat : Int)) * 256 + 0 = _
    simp [words]
  | a :: b :: t, 0, h => by
    rw [even_cons]; rfl
  | a :: b :: t, k + 1, h => by
    rw [even_cons]
    have := even_word t k (by simpa [words] using h)
    simp only [words, List.getD_cons_succ]
    rw [← this, show 2 * (k + 1) = 2 * k + 2 from by omega]
    rfl

theorem Add (a b : Int) (w : World) (ha : 0 ≤ a ∧ a ≤ 65535) (hb : 0 ≤ b ∧ b ≤ 65535) :
    Calls Tryz.prog 248 #[.int .u16 a, .int .u16 b] w fun e w' => e = .returned (.int .u16 (add1 a b)) ∧ w = w' := by
  obtain ⟨a0, a1⟩ := ha
  obtain ⟨b0, b1⟩ := hb
  have q1 : bits .and .u32 (a + b) 65535 = (a + b) % 65536 := by
    rw [u32_and _ _ (by omega) (by omega) (by omega) (by omega)]
    show ((((a + b).toNat &&& 65535 : Nat)) : Int) = _
    rw [show (65535 : Nat) = 2 ^ 16 - 1 from rfl, Nat.and_two_pow_sub_one_eq_mod]
    omega
  have q2 : (a + b) % 65536 + (a + b) / 65536 = add1 a b := by unfold add1; split <;> omega
  have Q2 := hide q2
  clear q2
  go_enter Tryz.func248, Tryz.ntmps248
  go_wp2
  go_ret
  exact ⟨ret_int Q2.out, rfl⟩

/-- words(s): a box that holds the text, and the iterator over it -/
theorem words_any (s : ByteArray) (w : World) :
    Calls Tryz.prog 222 #[.string s] w fun e w' => e = .returned (.func (.func 267) #[] #[.pointer (some ⟨w.heap.size, 0, none⟩)]) ∧ w' = w.alloc (.cells #[.string s] 9) := by
  go_enter Tryz.func222, Tryz.ntmps222
  go_wp2
  go_ret
  exact ⟨rfl, rfl⟩

theorem take_snoc_i {xs : List Int} {k : Nat} (h : k < xs.length) : xs.take k ++ [xs.getD k 0] = xs.take (k + 1) := (take_snoc_int xs k h).symm
theorem split_at {xs : List Int} {k : Nat} (h : k < xs.length) : xs = xs.take k ++ xs.getD k 0 :: xs.drop (k + 1) := by
  rw [List.getD_eq_getElem?_getD, List.getElem?_eq_getElem h]
  simp [← List.drop_eq_getElem_cons h]

set_option maxHeartbeats 1000000 in
theorem words1_stops (s : ByteArray) (w : World) (B : Nat) (hs : s.size ≤ 140737488351232) (hB : Boxed w B 9 (.string s)) :
    SeqAll Fence.wide 2 Tryz.prog 267 #[.pointer (some ⟨B, 0, none⟩)] (fun x : Int => #[.int .u16 x]) B (words (L s)) w := by
  intro l J W hbw hJ hJB hY h0
  have hBW : Boxed W B 9 (.string s) := (hbw.block B hB.lt).trans hB
  have hd : ∀ st A n, J st A → J st (A.drewN n) := fun st A n h => hJ st A (A.drewN n) none h ⟨rfl, rfl, rfl, Nat.le_refl _, fun _ _ _ => rfl⟩ (fun r e => by cases e)
  have hc := hBW.cell
  have hf := hBW.frozen
  have HY := hide hY
  have HD := hide hd
  clear hY hd hJ hbw
  obtain ⟨xs, hxs⟩ : ∃ xs, xs = words (L s) := ⟨_, rfl⟩
  obtain ⟨t, ht⟩ : ∃ t, t = S (even (L s)) := ⟨_, rfl⟩
  have lt : L t = even (L s) := by rw [ht, L_S]
  have zt : t.size = 2 * xs.length := by rw [← L_length, lt, even_length, hxs]
  have hm : t.size ≤ 140737488351233 := by
    rw [← L_length, lt]; unfold even; split
    · rw [List.length_append, L_length]; simp; omega
    · rw [L_length]; omega
  have hw : ∀ k, k < xs.length → be16 (L t) (2 * k) = xs.getD k 0 := fun k hk => by rw [lt, hxs]; exact even_word _ k (by rw [← hxs]; exact hk)
  have hbd : ∀ x ∈ xs, 0 ≤ x ∧ x ≤ 65535 := by rw [hxs]; exact words_bd _
  rw [← hxs] at HY ⊢
  have HW := hide hw
  have HBD := hide hbd
  have HXS := hide hxs
  have start : (J [] W ∧ Boxed W B 9 (.string t) ∧ s.size % 2 = 0) ∨ (J [] (W.setCell ⟨B, 0, none⟩ (.string (s ++ { data := #[0] }))) ∧ Boxed (W.setCell ⟨B, 0, none⟩ (.string (s ++ { data := #[0] }))) B 9 (.string t) ∧ s.size % 2 = 1) := by
    by_cases hodd : s.size % 2 = 1
    · right
      refine ⟨hJB _ _ _ h0, ?_, hodd⟩
      have e : s ++ { data := #[0] } = t := L_inj (by rw [L_append, lt]; unfold even; rw [if_pos (by rw [L_length]; exact hodd)]; rfl)
      rw [e]
      exact hBW.set _
    · left
      have e : s = t := L_inj (by rw [lt]; unfold even; rw [if_neg (by rw [L_length]; exact hodd)])
      exact ⟨h0, by rw [← e]; exact hBW, by omega⟩
  clear hw hbd hxs ht lt hJB h0
  rcases start with ⟨hJ0, hB0, hodd⟩ | ⟨hJ0, hB0, hodd⟩
  all_goals
    have hlt : s.size ≤ 140737488351232 := hs
    refine callsIn_of_wp Tryz.func267 rfl trivial ?_ rfl
    simp only [Tryz.ntmps267, List.size_toArray, List.length_cons, List.length_nil, Nat.reduceAdd, Nat.reduceSub, Array.replicate_succ, Array.replicate_zero, List.push_toArray, List.append_toArray, List.nil_append, List.cons_append]
    gi_wp2
    gi_loopw [3] (fun i wr => ∃ k : Nat, k ≤ xs.length ∧ i = .int .i64 (2 * (k : Int)) ∧ J (xs.take k) wr ∧ Boxed wr B 9 (.string t)) (fun i _ => 2 * xs.length + 2 - (intOf i).toNat)
    case atStart => exact ⟨0, Nat.zero_le _, rfl, hJ0, hB0⟩
    case round =>
      obtain ⟨k, hk, rfl, hJk, hBk⟩ := hrel
      have hck := hBk.cell
      by_cases hlt : k < xs.length
      · obtain ⟨x, hx⟩ : ∃ x, x = xs.getD k 0 := ⟨_, rfl⟩
        have e1 := HW.out k hlt
        have hsp := split_at hlt
        obtain ⟨x0, x1⟩ := HBD.out _ (getD_mem hlt)
        have hsn := take_snoc_i hlt
        rw [← hx] at e1 hsp x0 x1 hsn
        have E1 := hide e1; have HSN := hide hsn; have HSP := hide hsp
        clear e1 hsn hsp hx
        gi_wp2_with fail
        refine ⟨trivial, ?_⟩
        rw [show 2 * (k : Int) = ((2 * k : Nat) : Int) from by omega]
        refine (callsIn_wide.2 (Get16_in t (2 * k) _ (by unfold maxLen; omega) (by omega))).mono ?_
        rintro e w1 ⟨rfl, n1, rfl⟩
        rw [E1.out]
        obtain ⟨fn, tmps, assign, body, hy, hR⟩ := HY.out (xs.take k) x (xs.drop (k + 1)) (wr.drewN n1) HSP.out (HD.out _ _ _ hJk)
        gi_wp2
        refine hR.mono ?_
        rintro e W' ⟨rfl, hJ', hk'⟩
        have hB' : Boxed W' B 9 (.string t) := hk'.trans hBk
        rw [HSN.out] at hJ'
        gi_wp2
        go_roundw
        case rel => exact ⟨k + 1, by omega, by go_num, hJ', hB'⟩
        case measure => simp [intOf]; omega
      · obtain rfl : k = xs.length := by omega
        rw [List.take_length] at hJk
        have hh : has t.size (2 * (xs.length : Int)) 2 = false := has_false (by omega)
        have hg : get16 (L t) (2 * (xs.length : Int)) = 0 := by unfold get16; rw [L_length, hh]; rfl
        have c1 := fun w => Get16_q t (2 * (xs.length : Int)) w (by unfold maxLen; omega) (by omega)
        rw [hh, hg] at c1
        have C1 := hide c1
        clear hh hg c1
        gi_wp2_with fail
        refine ⟨trivial, ?_⟩
        refine (callsIn_wide.2 (C1.out _)).mono ?_
        rintro e w1 ⟨rfl, n1, rfl⟩
        gi_wp2_with fail
        refine ⟨fun _ h => (by cases h), ?_⟩
        gi_wp2
        refine bodyPost_ret (results_none rfl _ _ _) rfl ?_
        exact ⟨⟨_, rfl⟩, HD.out _ _ _ hJk⟩

/-- the sum of some texts -/
def sumL (ls : List (List UInt8)) : Int := 65535 - fold1 0 (ls.flatMap words)
theorem flat_bd (ls : List (List UInt8)) : ∀ x ∈ ls.flatMap words, 0 ≤ x ∧ x ≤ 65535 := by
  intro x hx
  obtain ⟨l, _, hl⟩ := List.mem_flatMap.1 hx
  exact words_bd l x hl
theorem take_snoc_s (l : List ByteArray) (k : Nat) (h : k < l.length) : l.take (k + 1) = l.take k ++ [l.getD k ByteArray.empty] := by
  rw [List.take_succ_eq_append_getElem h, List.getD_eq_getElem?_getD, List.getElem?_eq_getElem h]; rfl
theorem strs_at {l : List ByteArray} {j : Nat} (h : j < l.length) : (l.map Value.string)[j]? = some (.string (l.getD j ByteArray.empty)) := by
  simp [List.getD_eq_getElem?_getD, List.getElem?_eq_getElem h]
theorem getD_mem_s {l : List ByteArray} {k : Nat} (h : k < l.length) : l.getD k ByteArray.empty ∈ l := by
  rw [List.getD_eq_getElem?_getD, List.getElem?_eq_getElem h]; exact List.getElem_mem h
/-- what the first k texts come to -/
def part (ss : List ByteArray) (k : Nat) : Int := fold1 0 ((ss.take k).flatMap fun s => words (L s))
theorem part_bd (ss : List ByteArray) (k : Nat) : 0 ≤ part ss k ∧ part ss k ≤ 65535 :=
  fold1_bd _ 0 (by omega) (fun x hx => by
    obtain ⟨l, _, hl⟩ := List.mem_flatMap.1 hx
    exact words_bd _ x hl)
theorem part_succ (ss : List ByteArray) (k : Nat) (h : k < ss.length) : part ss (k + 1) = fold1 (part ss k) (words (L (ss.getD k ByteArray.empty))) := by
  unfold part; rw [take_snoc_s ss k h, List.flatMap_append, fold1_append]; simp
theorem part_all (ss : List ByteArray) (k : Nat) (h : k = ss.length) : 65535 - part ss k = sumL (ss.map L) := by
  unfold part sumL; rw [h, List.take_length, List.flatMap_map]

end Go.Proofs.YtedfdphapcanoaaGreatDoor
end
