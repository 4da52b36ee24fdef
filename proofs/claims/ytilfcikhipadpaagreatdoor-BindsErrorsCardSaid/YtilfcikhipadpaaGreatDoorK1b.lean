/- Several texts of this claim, one behind the other. -/
import Derived.Test.YtilfcikhipadpaaGreatDoorK0
import Derived.Laws.Tables

section
/- An operation's run hangs on its operands alone: for wide frames. -/
set_option linter.unusedVariables false
namespace Go.Proofs.YtilfcikhipadpaaGreatDoor

def lookV : List Nat → List Value → Nat → Value
  | k :: ks, v :: vs, t => if t = k then v else lookV ks vs t
  | _, _, _ => undef
def envL (ks : List Nat) (vs : List Value) : Operand → Value
  | .tmp t => lookV ks vs t
  | .const v => v
  | .global g => .pointer (some ⟨g, 0, none⟩)
  | .func f => .func (.func f) #[] #[]
end Go.Proofs.YtilfcikhipadpaaGreatDoor
end

section
/- A region in an open order whose last operations wait for an operation by way of others: wpAnyJ_takeB. -/
set_option linter.unusedVariables false
namespace Go.Proofs.YtilfcikhipadpaaGreatDoor
section
variable {P : Program} {ops : Array Oper} {Q : Exit → Act → World → Prop} {md : Region.Mode} {S : World → Prop} {N : List Nat}

/-- B: not done yet, and each of them, but i, waits for another one of them; the last operations are among them -/
def pathWait (md : Region.Mode) (ops : Array Oper) (l : Array Bool) (N B : List Nat) (i : Nat) : Bool :=
  N.all (fun n => n != i && B.contains n) && B.all fun b => l.getD b true == false && (b == i || (match ops[b]? with | some o => o.after.any fun e => B.contains e.on && Region.binds md e | none => false))

theorem wpAnyJ_firstB {i : Nat} {oi : Oper} {v : Value} (B : List Nat) (hi : ops[i]? = some oi) (hsel : ∀ (j : Nat) (o : Oper) cs b, ops[j]? = some o → o.op ≠ .select cs b)
    (hQ : ∀ c a w, Q (.panic c) (a.put oi.dst v) w → Q (.panic c) a w) (hN : ∀ n ∈ N, n ≠ i ∧ n ∈ B)
    (hB : ∀ b ∈ B, b ≠ i → ∃ ob, ops[b]? = some ob ∧ ∃ e ∈ ob.after, e.on ∈ B ∧ Region.binds md e = true) :
    ∀ (f : Nat) (l : Array Bool) (a : Act) (w : World), (∀ b ∈ B, l.getD b true = false) →
      (∀ j oj, ops[j]? = some oj → j ≠ i → l.getD j true = false → (∀ e ∈ oj.after, Region.binds md e = true → e.on ≠ i) → oi.apart ops oj = true) →
      i ∈ Region.ready md ops l → YieldsIf P ops S oi v a → S w →
      wpAnyJ P md ops Q S N f (l.setIfInBounds i true) (a.put oi.dst v) w → wpAnyJ P md ops Q S N (f + 1) l a w := by
  intro f
  induction f with
  | zero =>
    intro l a w _ _ hr hy hS H
    refine ⟨fun h => (by rw [h] at hr; cases hr), fun j hj => ?_⟩
    by_cases hji : j = i
    · subst hji; exact hy.wpOp hi hS ⟨Or.inr hS, H⟩
    · have := ready_mono hj hji
      rw [H.1] at this
      cases this
  | succ f ih =>
    intro l a w hU hfree hr hy hS H
    refine ⟨fun h => (by rw [h] at hr; cases hr), fun j hj => ?_⟩
    by_cases hji : j = i
    · subst hji; exact hy.wpOp hi hS ⟨Or.inr hS, H⟩
    obtain ⟨hjun, oj, hoj, hall⟩ := mem_ready.1 hj
    have hjB : j ∉ B := fun hb => by
      obtain ⟨ob, h1, e, h2, h3, h4⟩ := hB j hb hji
      rw [hoj] at h1
      cases h1
      have h5 := hall e h2 h4
      have h6 := hU _ h3
      rcases Nat.lt_or_ge e.on l.size with h' | h'
      · simp [h'] at h5 h6; rw [h6] at h5; cases h5
      · simp [Array.getElem?_eq_none h'] at h5 h6
    have hjN : j ∉ N := fun hn => hjB (hN j hn).2
    have hnot : ∀ e ∈ oj.after, Region.binds md e = true → e.on ≠ i := fun e he hb heq => by
      have h1 := hall e he hb
      have h0 := (mem_ready.1 hr).1
      rw [heq] at h1
      rcases Nat.lt_or_ge i l.size with h' | h'
      · simp [h'] at h0 h1; rw [h0] at h1; cases h1
      · simp [Array.getElem?_eq_none h'] at h1
    have h2 := wpOp_putIf hoj (hfree j oj hoj hji hjun hnot) (fun cs b => hsel i oi cs b hi) (fun cs b => hsel j oj cs b hoj) hQ hy (H.2 j (ready_mono hj hji))
    have hfree' : ∀ k ok, ops[k]? = some ok → k ≠ i → (l.setIfInBounds j true).getD k true = false →
        (∀ e ∈ ok.after, Region.binds md e = true → e.on ≠ i) → oi.apart ops ok = true := fun k ok hk hki hun hno => by
      refine hfree k ok hk hki ?_ hno
      by_cases hjk : j = k
      · subst hjk; exact hjun
      · rw [getD_set_ne true hjk] at hun; exact hun
    have hU' : ∀ b ∈ B, (l.setIfInBounds j true).getD b true = false := fun b hb => by
      have hne : j ≠ b := fun h => hjB (by rw [h]; exact hb)
      rw [getD_set_ne true hne]; exact hU b hb
    refine wpOp_mono (fun a' w' h3 => ?_) h2
    obtain ⟨hy', hS', H'⟩ := h3
    rcases hS' with hS' | hS'
    · exact absurd hS' hjN
    · refine ⟨Or.inr hS', ih (l.setIfInBounds j true) a' w' hU' hfree' (ready_mono hr (Ne.symm hji)) hy' hS' ?_⟩
      rw [Array.setIfInBounds_comm _ _ hji]
      exact H'
theorem wpAnyJ_takeB {i : Nat} {oi : Oper} {v : Value} {f : Nat} {l : Array Bool} {a : Act} {w : World} (B : List Nat) (hi : ops[i]? = some oi)
    (hs : Region.noSelect ops = true) (hf : Region.free md ops l i = true) (hr : (Region.ready md ops l).contains i = true) (hN : pathWait md ops l N B i = true)
    (hQ : ∀ c a w, Q (.panic c) (a.put oi.dst v) w → Q (.panic c) a w) (hy : YieldsIf P ops S oi v a) (hS : S w)
    (h : wpAnyJ P md ops Q S N f (l.setIfInBounds i true) (a.put oi.dst v) w) : wpAnyJ P md ops Q S N (f + 1) l a w := by
  unfold pathWait at hN
  simp only [Bool.and_eq_true, List.all_eq_true, bne_iff_ne, ne_eq, List.contains_iff_mem, beq_iff_eq, Bool.or_eq_true] at hN
  refine wpAnyJ_firstB B hi (Region.noSelect_spec hs) hQ hN.1 (fun b hb hne => ?_) f l a w (fun b hb => (hN.2 b hb).1) (Region.free_spec hi hf) (by simpa using hr) hy hS h
  have h1 := (hN.2 b hb).2
  rcases h1 with h1 | h1
  · exact absurd h1 hne
  · cases ho : ops[b]? with
    | none => rw [ho] at h1; cases h1
    | some o =>
      rw [ho] at h1
      simp only [Array.any_eq_true, Bool.and_eq_true, List.contains_iff_mem] at h1
      obtain ⟨k, hk, h2, h3⟩ := h1
      exact ⟨o, rfl, _, Array.getElem_mem hk, h2, h3⟩
end
end Go.Proofs.YtilfcikhipadpaaGreatDoor
end

section
/- Short words for the walks: whole blocks' cells at once, moves of drawn regions. No program. -/
set_option linter.unusedVariables false
namespace Go.Proofs.YtilfcikhipadpaaGreatDoor
open Go.RowKit

theorem putS {α : Type} : (∀ (xs : List α) (i : Nat) (a : α), xs.toArray.setIfInBounds i a = (xs.set i a).toArray) ∧ (∀ (a b : α) (t : List α), (a :: t).set 0 b = b :: t) ∧ (∀ (a b : α) (t : List α) (n : Nat), (a :: t).set (n + 1) b = a :: t.set n b) ∧
    (∀ (xs : List α) (i : Nat) (h : i < xs.toArray.size), xs.toArray[i]'h = xs[i]'(by simpa using h)) ∧ (∀ (a : α) (t : List α) (i : Nat) (h : i + 1 < (a :: t).length), (a :: t)[i + 1]'h = t[i]'(by simpa using h)) ∧ (∀ (a : α) (t : List α) (h : 0 < (a :: t).length), (a :: t)[0]'h = a) :=
  ⟨fun _ _ _ => List.setIfInBounds_toArray .., fun _ _ _ => rfl, fun _ _ _ _ => rfl, fun _ _ _ => rfl, fun _ _ _ _ => rfl, fun _ _ _ => rfl⟩
theorem putG {α : Type} : (∀ (xs : List α) (i : Nat) (h : i < xs.toArray.size), xs.toArray[i]'h = xs[i]'(by simpa using h)) ∧ (∀ (a : α) (t : List α) (i : Nat) (h : i + 1 < (a :: t).length), (a :: t)[i + 1]'h = t[i]'(by simpa using h)) ∧ (∀ (a : α) (t : List α) (h : 0 < (a :: t).length), (a :: t)[0]'h = a) :=
  ⟨fun _ _ _ => rfl, fun _ _ _ _ => rfl, fun _ _ _ => rfl⟩
theorem Cells.x5 {w : World} {b : Nat} {a0 a1 a2 a3 a4 : Value} {T : TypeId} (h : Cells w b #[a0, a1, a2, a3, a4] T) : w.cell? ⟨b, 0, none⟩ = some a0 ∧ w.cell? ⟨b, 1, none⟩ = some a1 ∧ w.cell? ⟨b, 2, none⟩ = some a2 ∧ w.cell? ⟨b, 3, none⟩ = some a3 ∧ w.cell? ⟨b, 4, none⟩ = some a4 := ⟨h.at_ 0, h.at_ 1, h.at_ 2, h.at_ 3, h.at_ 4⟩
theorem Cells.y5 {w : World} {b : Nat} {a0 a1 a2 a3 a4 : Value} {T : TypeId} (h : Cells w b #[a0, a1, a2, a3, a4] T) : w.frozen? ⟨b, 0, none⟩ = false ∧ w.frozen? ⟨b, 1, none⟩ = false ∧ w.frozen? ⟨b, 2, none⟩ = false ∧ w.frozen? ⟨b, 3, none⟩ = false ∧ w.frozen? ⟨b, 4, none⟩ = false := ⟨h.free 0, h.free 1, h.free 2, h.free 3, h.free 4⟩
theorem Cells.q5 {w : World} {b : Nat} {a0 a1 a2 a3 a4 : Value} {T : TypeId} (h : Cells w b #[a0, a1, a2, a3, a4] T) : (∀ W, Below w.heap.size w W → W.cell? ⟨b, 0, none⟩ = some a0) ∧ (∀ W, Below w.heap.size w W → W.cell? ⟨b, 1, none⟩ = some a1) ∧ (∀ W, Below w.heap.size w W → W.cell? ⟨b, 2, none⟩ = some a2) ∧ (∀ W, Below w.heap.size w W → W.cell? ⟨b, 3, none⟩ = some a3) ∧ (∀ W, Below w.heap.size w W → W.cell? ⟨b, 4, none⟩ = some a4) := ⟨fun _ k => (Cells.below k h).at_ 0, fun _ k => (Cells.below k h).at_ 1, fun _ k => (Cells.below k h).at_ 2, fun _ k => (Cells.below k h).at_ 3, fun _ k => (Cells.below k h).at_ 4⟩
theorem Cells.x8 {w : World} {b : Nat} {a0 a1 a2 a3 a4 a5 a6 a7 : Value} {T : TypeId} (h : Cells w b #[a0, a1, a2, a3, a4, a5, a6, a7] T) : w.cell? ⟨b, 0, none⟩ = some a0 ∧ w.cell? ⟨b, 1, none⟩ = some a1 ∧ w.cell? ⟨b, 2, none⟩ = some a2 ∧ w.cell? ⟨b, 3, none⟩ = some a3 ∧ w.cell? ⟨b, 4, none⟩ = some a4 ∧ w.cell? ⟨b, 5, none⟩ = some a5 ∧ w.cell? ⟨b, 6, none⟩ = some a6 ∧ w.cell? ⟨b, 7, none⟩ = some a7 := ⟨h.at_ 0, h.at_ 1, h.at_ 2, h.at_ 3, h.at_ 4, h.at_ 5, h.at_ 6, h.at_ 7⟩
theorem Cells.y8 {w : World} {b : Nat} {a0 a1 a2 a3 a4 a5 a6 a7 : Value} {T : TypeId} (h : Cells w b #[a0, a1, a2, a3, a4, a5, a6, a7] T) : w.frozen? ⟨b, 0, none⟩ = false ∧ w.frozen? ⟨b, 1, none⟩ = false ∧ w.frozen? ⟨b, 2, none⟩ = false ∧ w.frozen? ⟨b, 3, none⟩ = false ∧ w.frozen? ⟨b, 4, none⟩ = false ∧ w.frozen? ⟨b, 5, none⟩ = false ∧ w.frozen? ⟨b, 6, none⟩ = false ∧ w.frozen? ⟨b, 7, none⟩ = false := ⟨h.free 0, h.free 1, h.free 2, h.free 3, h.free 4, h.free 5, h.free 6, h.free 7⟩
section
variable {P : Program} {ops : Array Oper} {Q : Exit → Act → World → Prop} {S : World → Prop} {N : List Nat} {md : Region.Mode} {oi : Oper} {v : Value} {f : Nat} {l : Array Bool} {a : Act} {w : World}
theorem tH (i : Nat) (hi : ops[i]? = some oi) (hS : S w) (h : wpAnyH P md ops Q S f (l.setIfInBounds i true) (a.put oi.dst v) w)
    (hs : Region.noSelect ops = true := by kernel_rfl) (hf : Region.free md ops l i = true := by kernel_rfl) (hr : (Region.ready md ops l).contains i = true := by kernel_rfl)
    (hQ : ∀ c a w, Q (.panic c) (a.put oi.dst v) w → Q (.panic c) a w := by exact fun _ _ _ h => h) (hg : Region.wanted oi (yielded ops a.tmps) = true := by rfl)
    (hy : ∀ w, S w → (execOp a.eval oi).run P w = .ok (.value v) w := by (intro w _; (try dsimp only); (try go_simp); (try with_reducible rfl))) : wpAnyH P md ops Q S (f + 1) l a w :=
  wpAnyH_take hi hs hf hr hQ (Or.inl ⟨hg, hy⟩) hS h
end
end Go.Proofs.YtilfcikhipadpaaGreatDoor
end

section
/- A run of a function's way, reckoned by the kernel: what is asked on the way (which branch, what a call or an operation yields) is answered from outside, with its proof. No program. -/
set_option linter.unusedVariables false
namespace Go.Proofs.YtilfcikhipadpaaGreatDoor
open Go.RowKit
namespace Rx

/-! ### values: an address whose spot is set names a block of the run's own -/
abbrev Nm := Nat → Nat × Nat
def renA (ρ : Nm) (a : Addr) : Addr := match a.spot with | some _ => ⟨(ρ a.block).1, a.off, none⟩ | none => a
/-- a slice's room: of spot 0 what is left of the row behind c elements, else c itself -/
def capA (ρ : Nm) (a : Addr) (c : Nat) : Nat := match a.spot with | some 0 => (ρ a.block).2 - c | some 2 => (ρ a.block).2 - c | _ => c
/-- where a slice lies; of spot 2 (an empty one, behind c elements): at the row's head if there is no room behind it -/
def renB (ρ : Nm) (a : Addr) (c : Nat) : Addr := match a.spot with
  | some 2 => ⟨(ρ a.block).1, if (ρ a.block).2 = c then 0 else a.off, none⟩
  | some _ => ⟨(ρ a.block).1, a.off, none⟩
  | none => a
def renS (ρ : Nm) : Value → Value
  | .pointer (some a) => .pointer (some (renA ρ a))
  | .slice (some a) n c => .slice (some (renB ρ a c)) n (capA ρ a c)
  | v => v
def ren0 (ρ : Nm) : Value → Value
  | .func f x y => .func f (x.toList.map (renS ρ)).toArray (y.toList.map (renS ρ)).toArray
  | v => renS ρ v
def ren1 (ρ : Nm) : Value → Value
  | .agg cs => .agg (cs.toList.map (ren0 ρ)).toArray
  | v => ren0 ρ v
def ren (ρ : Nm) : Value → Value
  | .tuple vs => .tuple (vs.toList.map (ren1 ρ)).toArray
  | v => ren1 ρ v
def realS : Value → Bool
  | .pointer (some a) => a.spot.isNone
  | .slice (some a) _ _ => a.spot.isNone
  | _ => true
def real0 : Value → Bool
  | .func _ x y => x.toList.all realS && y.toList.all realS
  | v => realS v
def real1 : Value → Bool
  | .agg cs => cs.toList.all real0
  | v => real0 v
def real : Value → Bool
  | .tuple vs => vs.toList.all real1
  | v => real1 v
/-- one cell's value -/
def scal : Value → Bool
  | .agg _ | .tuple _ => false
  | _ => true
def notTuple : Value → Bool
  | .tuple _ => false
  | _ => true

/-! ### questions and answers -/
/-- cells, their type, whether it is a row whose room is known to the names -/
abbrev Blk := List Value × TypeId × Bool
/-- how code is left -/
inductive X where
  | nrm
  | ex (id : Nat)
  | ret
inductive Ans where
  | br (t : Bool)
  | gd (t : Bool)
  | op (v : Value)
  | call (v : Value)
  | callR (ids : List Nat) (v : Value)
  | eq (v : Value)
  | con (ids : List Nat) (v : Value) (out : List (Nat × Blk)) (d : Nat)
  | rd (ids ws : List Nat) (v : Value) (out : List (Nat × Blk)) (d : Nat)
  | lp (slots ids : List Nat) (x : X) (vals : List (Nat × Value)) (out : List (Nat × Blk)) (d : Nat)
inductive Key where
  | b (b : Bool)
  | s (s : Sem Next)
  | c (f : FuncId) (args : List Value)
  | cr (f : FuncId) (args : List Value) (snap : List (Nat × Blk))
  | v (v : Value)
  | cm (f : FuncId) (args : List Value) (sn : List (Nat × Blk)) (nx : Nat) (body : Bool)
  | sm (s : Nm → Sem Next) (sn : List (Nat × Blk)) (nx : Nat)
  | lp (c : Code) (n : Nat) (vals : List (Nat × Value)) (sn : List (Nat × Blk)) (nx : Nat)
structure Ts where
  c : Nat
  qs : List (Nat × Ans)
  ks : List Key
def Ts.pop (ts : Ts) : Option (Ans × List (Nat × Ans)) :=
  match ts.qs with
  | [] => none
  | (k, a) :: r => cond (Nat.beq k ts.c) (some (a, r)) none
def Ts.bool (ts : Ts) (b : Bool) : Bool × Ts :=
  match ts.pop with
  | some (.br t, r) => (t, ⟨ts.c, r, .b b :: ts.ks⟩)
  | _ => (b, ts)
def Ts.grd (ts : Ts) (b : Bool) : Bool × Ts :=
  match ts.pop with
  | some (.gd t, r) => (t, ⟨ts.c, r, .b b :: ts.ks⟩)
  | _ => (b, ts)
def Ts.tick (ts : Ts) : Ts := ⟨ts.c + 1, ts.qs, ts.ks⟩

/-! ### memory of the run's own -/
abbrev Mem := Nat → Option Blk
/-- what became of blocks; none: nobody may look at it any more -/
abbrev Log := List (Nat × Option Blk)
def Mem.put (m : Mem) (i : Nat) (b : Option Blk) : Mem := fun j => cond (Nat.beq j i) b (m j)
def Mem.add (m : Mem) : Log → Mem
  | [] => m
  | (i, b) :: l => (Mem.add m l).put i b
def has1 (l : List Nat) (x : Nat) : Bool := l.any fun y => Nat.beq y x
def memL : List (Nat × Blk) → Mem
  | [] => fun _ => none
  | (i, b) :: l => (memL l).put i (some b)
/-- blocks become these; what is not among them nobody may look at any more -/
def outLog (sn out : List (Nat × Blk)) : Log := out.map (fun e => (e.1, some e.2)) ++ sn.map (fun e => (e.1, none))
def outOK (ids : List Nat) (nx d : Nat) (out : List (Nat × Blk)) : Bool := out.all fun e => has1 ids e.1 || (Nat.ble nx e.1 && Nat.blt e.1 (nx + d))
/-- what is left: what is written anew, and what is read alone -/
def outF (sn : List (Nat × Blk)) (ws : List Nat) (out : List (Nat × Blk)) : List (Nat × Blk) := out ++ sn.filter fun e => !has1 ws e.1
def logF (sn : List (Nat × Blk)) (ws : List Nat) (out : List (Nat × Blk)) : Log := out.map (fun e => (e.1, some e.2)) ++ (sn.filter fun e => has1 ws e.1).map (fun e => (e.1, none))
structure Out where
  v : Value
  log : Log
  nx : Nat
  ts : Ts
abbrev CallF := FuncId → List Value → Mem → Nat → Ts → Option Out
abbrev Env := Nat → Option Value
def Env.put (e : Env) (i : Nat) (v : Value) : Env := fun j => cond (Nat.beq j i) (some v) (e j)

def envL : List (Nat × Value) → Env
  | [] => fun _ => none
  | (t, v) :: l => (envL l).put t v
def look (e : Env) : List Nat → Option (List (Nat × Value))
  | [] => some []
  | t :: l => match e t with
    | some v => match look e l with
      | some r => some ((t, v) :: r)
      | none => none
    | none => none

/-- an operation that asks for no memory -/
def pureRun {α : Type} (P : Program) : Sem α → Option α
  | .pure a => some a
  | .program k => pureRun P (k P)
  | _ => none

def evalA (e : Env) : Operand → Option Value
  | .tmp t => e t
  | .const v => cond (real v) (some v) none
  | .global g => some (.pointer (some ⟨g, 0, none⟩))
  | .func f => some (.func (.func f) #[] #[])
def evL (ev : Operand → Option Value) : List Operand → Option (List Value)
  | [] => some []
  | x :: xs => match ev x with
    | some v => match evL ev xs with
      | some vs => some (v :: vs)
      | none => none
    | none => none
def realO : Option Value → Bool
  | some v => real v
  | none => false
def isSel : Op → Bool
  | .select _ _ => true
  | _ => false
/-- the Sem of an operation whose operands have no places of the run's own -/
def semOf (ev : Operand → Option Value) (o : Oper) : Sem Next := execOp (fun x => (ev x).getD undef) o
/-- the Sem of an operation, by the names -/
def semR (ev : Operand → Option Value) (o : Oper) (ρ : Nm) : Sem Next := execOp (fun x => ren ρ ((ev x).getD undef)) o
def allSome (ev : Operand → Option Value) (o : Oper) : Bool := !isSel o.op && o.op.operands.toList.all fun x => (ev x).isSome
def allReal (ev : Operand → Option Value) (o : Oper) : Bool := !isSel o.op && o.op.operands.toList.all fun x => realO (ev x)
def plainOp (P : Program) (o : Oper) (ev : Operand → Option Value) : Option Value :=
  cond (allReal ev o) (match pureRun P (semOf ev o) with
    | some (.value v) => cond (real v) (some v) none
    | _ => none) none
def plainR (P : Program) (o : Oper) (ev : Operand → Option Value) (nx : Nat) : Option (Value × Log × Nat) :=
  match plainOp P o ev with
  | some v => some (v, [], nx)
  | none => none
def hasBody (P : Program) (f : FuncId) : Bool :=
  match P.funcs[f]? with
  | some fn => fn.body.isSome && !(fn.name == "runtime.NumGoroutine")
  | none => false
/-- the cells off .. off + n of a block -/
def cut (cs : List Value) (off n : Nat) : List Value := (cs.drop off).take n
def splice (cs : List Value) (off : Nat) (vs : List Value) : List Value := cs.take off ++ (vs ++ cs.drop (off + vs.length))

def loadA (P : Program) (m : Mem) (T : TypeId) : Value → Option Value
  | .pointer (some ⟨id, off, some _⟩) =>
    match m id with
    | some (cs, _) => match pureRun P (isAgg T) with
      | some true => match pureRun P (sizeOf T) with
        | some n => cond (Nat.ble (off + n) cs.length) (some (.agg (cut cs off n).toArray)) none
        | none => none
      | some false => match cs[off]? with
        | some v => cond (scal v) (some v) none
        | none => none
      | none => none
    | none => none
  | _ => none
def storeA (P : Program) (m : Mem) (T : TypeId) (x : Value) : Value → Option (Nat × Option Blk)
  | .pointer (some ⟨id, off, some _⟩) =>
    match m id with
    | some (cs, U, rw) => match pureRun P (sizeOf T) with
      | some n => cond (Nat.beq x.cells.size n && Nat.ble (off + n) cs.length && x.cells.toList.all scal && notTuple x) (some (id, some (splice cs off x.cells.toList, U, rw))) none
      | none => none
    | none => none
  | _ => none
def pickB : Value → Value → Option (Bool × Bool)
  | .bool x, .bool y => some (x, y)
  | _, _ => none
def structOf (P : Program) (T : TypeId) : Option (Array Field) :=
  match P.underlying T with
  | some (.struct fs) => some fs
  | _ => none
def zeroReal (P : Program) (T : TypeId) : Bool :=
  match P.info? T with
  | some i => match i.zero with
    | some z => z.cells.toList.all real0
    | none => false
  | none => false
def buildA (P : Program) (T : TypeId) (ev : Operand → Option Value) (ps : List (Nat × Operand)) : Option Value :=
  match evL ev (ps.map (·.2)) with
  | some vs => cond (vs.all notTuple && zeroReal P T) (match P.built T ((ps.map (·.1)).zip vs) with
    | some cells => some (.agg cells)
    | none => none) none
  | none => none

/-- values that are one cell and no function -/
def flat : Value → Bool
  | .agg _ | .tuple _ | .func _ _ _ => false
  | _ => true
/-! ### equality -/
def partA (P : Program) (t : TypeId) (cs : List Value) (off : Nat) : Option Value :=
  match pureRun P (isAgg t) with
  | some true => match pureRun P (sizeOf t) with
    | some n => some (.agg (cut cs off n).toArray)
    | none => none
  | some false => match cs[off]? with
    | some v => cond (scal v) (some v) none
    | none => none
  | none => none
def eqS (d : TypeDesc) (x y : Value) : Option Bool :=
  match d, x, y with
  | .bool, .bool a, .bool b => some (a == b)
  | .int _, .int k a, .int k' b => cond (decide (k = k')) (some (a == b)) none
  | .string, .string a, .string b => some (a.toList == b.toList)
  | .pointer _, .pointer none, .pointer b => some b.isNone
  | .pointer _, .pointer (some _), .pointer none => some false
  | .slice _, .slice none _ _, .slice b _ _ => some b.isNone
  | .slice _, .slice (some _) _ _, .slice none _ _ => some false
  | .func .., .nilFunc, .nilFunc => some true
  | .func .., .nilFunc, .func .. => some false
  | .func .., .func .., .nilFunc => some false
  | _, _, _ => none
def eqF (P : Program) (eqr : TypeId → Value → Value → Option Bool) (xs ys : List Value) : List Field → Option Bool
  | [] => some true
  | f :: fs => cond (f.name == "_") none
    (match partA P f.type xs f.offset with
    | some a => match partA P f.type ys f.offset with
      | some b => match eqr f.type a b with
        | some r => match eqF P eqr xs ys fs with
          | some q => some (r && q)
          | none => none
        | none => none
      | none => none
    | none => none)
/-- are two values the same, told by one Bool -/
def eqA (P : Program) : Nat → TypeId → Value → Value → Option Bool
  | 0, _, _, _ => none
  | n + 1, t, x, y =>
    match P.underlying t with
    | some (.struct fs) => match x with
      | .agg xs => match y with
        | .agg ys => cond (P.stoodInHeld t) none (eqF P (eqA P n) xs.toList ys.toList fs.toList)
        | _ => none
      | _ => none
    | some d => eqS d x y
    | none => none
def isEq : BinOp → Option Bool
  | .eql => some true
  | .neq => some false
  | _ => none
def guardA (P : Program) (t : TypeId) : Value → Bool
  | .agg _ => !P.eqGuardType P.depth t
  | .nilIface => false
  | _ => true
def notNum : Value → Bool
  | .int .. | .float .. | .complex .. | .string _ => false
  | _ => true
def cmpA (P : Program) (op : BinOp) (t : TypeId) (x y : Value) : Option Value :=
  match isEq op with
  | some e => cond (notNum x && guardA P t x) (match eqA P 10 t x y with
    | some b => some (.bool (cond e b (!b)))
    | none => none) none
  | none => none

/-! ### slices of the run's own -/
def elemA (P : Program) (T : TypeId) : Option (TypeId × TypeInfo) :=
  match P.underlying T with
  | some (.slice e) => match P.info? e with
    | some i => cond (Nat.beq i.size 0) none (some (e, i))
    | none => none
  | _ => none
def buildSliceA (P : Program) (T : TypeId) (len : Nat) (ev : Operand → Option Value) (ps : List (Nat × Operand)) (nx : Nat) : Option (Value × Log × Nat) :=
  match evL ev (ps.map (·.2)) with
  | some vs => match elemA P T with
    | some (e, i) => cond (Nat.beq len 0 && vs.isEmpty) (some (.slice (some ⟨nx, 0, some 1⟩) 0 0, [(nx, some ([], e, true))], nx + 1))
      (match i.zero with
      | some z => cond (vs.all notTuple && z.cells.toList.all real0 && Nat.ble (len * i.size) 16777216 && !Nat.beq (len * i.size) 0)
        (match Instr.fill (fun j => some (j * i.size, i.size)) (((List.range (len * i.size)).map (fun j => z.cells[j % z.cells.size]!)).toArray) ((ps.map (·.1)).zip vs) with
        | some cells => some (.slice (some ⟨nx, 0, some 1⟩) len len, [(nx, some (cells.toList, e, true))], nx + 1)
        | none => none) none
      | none => none)
    | none => none
  | none => none
def indexA (P : Program) (T : TypeId) : Value → Value → Option Value
  | .slice (some ⟨id, off, some q⟩) n _, .int _ (.ofNat j) => match elemA P T with
    | some (_, i) => cond (Nat.blt q 2 && Nat.blt j n) (some (.pointer (some ⟨id, off + j * i.size, some 0⟩))) none
    | none => none
  | .pointer (some ⟨id, off, some _⟩), .int _ (.ofNat j) => match P.underlying T with
    | some (.array n e) => match P.info? e with
      | some i => cond (Nat.blt j n) (some (.pointer (some ⟨id, off + j * i.size, some 0⟩))) none
      | none => none
    | _ => none
  | _, _ => none
def byteC (s : ByteArray) : List Value := s.data.toList.map fun b => Value.int .u8 b.toNat
/-- what is appended: so many elements, these cells -/
def srcA (P : Program) (m : Mem) (sz : Nat) (xT : TypeId) (x : Value) : Option (Nat × List Value) :=
  match P.underlying xT with
  | some (.slice _) => match x with
    | .slice none 0 _ => some (0, [])
    | .slice (some ⟨j, off, some q⟩) k _ => cond (Nat.beq q 2) (cond (Nat.beq k 0) (some (0, [])) none) (match m j with
      | some (cs, _) => cond (Nat.blt q 2 && Nat.ble (off + k * sz) cs.length && cs.all scal) (some (k, cut cs off (k * sz))) none
      | none => none)
    | _ => none
  | some .string => match x with
    | .string s => cond (Nat.beq sz 1) (some (s.size, byteC s)) none
    | _ => none
  | _ => none
/-- are there k elements for sure, from a slice's head on -/
def within (q off c sz k len : Nat) : Bool :=
  match q with
  | 0 => Nat.beq off (c * sz) && Nat.ble ((c + k) * sz) len
  | 1 => Nat.ble k c
  | _ => false
def endOK (q off c sz len : Nat) : Option Nat → Bool
  | some k => within q off c sz k len
  | none => Nat.blt q 2
def cut0 (id off c sz l h len : Nat) : Option Value :=
  cond (Nat.beq l 0) (some (.slice (some ⟨id, off, some 0⟩) h c))
    (cond (within 0 off c sz (l + 1) len) (some (.slice (some ⟨id, off + l * sz, some 0⟩) (h - l) (c + l)))
      (cond (Nat.beq off 0 && Nat.beq c 0 && Nat.beq h l) (some (.slice (some ⟨id, l * sz, some 2⟩) 0 l)) none))
def cut1 (id off c sz l h : Nat) : Option Value :=
  cond (Nat.ble h c) (some (.slice (some ⟨id, cond (Nat.beq c l) off (off + l * sz), some 1⟩) (h - l) (c - l))) none
/-- s[l:h:m] of a row of the run's own -/
def cutA (m : Mem) (sz e : Nat) (l h : Nat) (hi mx : Option Nat) : Value → Option Value
  | .slice (some ⟨id, off, some q⟩) n c => match m id with
    | some (cs, e', rw) => match mx with
      | some k => cond (hi.isSome && rw && Nat.beq e e' && Nat.ble l h && Nat.ble h k && within q off c sz k cs.length)
        (some (.slice (some ⟨id, cond (Nat.beq k l) off (off + l * sz), some 1⟩) (h - l) (k - l))) none
      | none => cond (rw && Nat.beq e e' && Nat.ble l h && endOK q off c sz cs.length hi)
        (match q with
        | 0 => cut0 id off c sz l h cs.length
        | _ => cut1 id off c sz l h) none
    | none => none
  | _ => none
def evO (ev : Operand → Option Value) : Option Operand → Option (Option Value)
  | none => some none
  | some x => match ev x with
    | some v => some (some v)
    | none => none
def litN : Option Value → Option (Option Nat)
  | none => some none
  | some (.int _ (.ofNat n)) => some (some n)
  | _ => none
def sliceA (P : Program) (m : Mem) (T : TypeId) (ev : Operand → Option Value) (x : Value) (lo hi mx : Option Operand) : Option Value :=
  match elemA P T with
  | some (e, i) => match evO ev lo with
    | some lv => match evO ev hi with
      | some hv => match evO ev mx with
        | some mv => match litN lv with
          | some l => match litN hv with
            | some h => match litN mv with
              | some k => match x with
                | .slice _ n _ => cutA m i.size e (l.getD 0) (h.getD n) h k x
                | _ => none
              | none => none
            | none => none
          | none => none
        | none => none
      | none => none
    | none => none
  | none => none
/-- its room is not known, or does not do -/
def roomy (q c k : Nat) : Bool := cond (Nat.beq q 0) (Nat.beq c 0) (Nat.blt c k)
/-- append: the old row may not be looked at any more -/
def appendA (P : Program) (ats : List TypeId) (m : Mem) (nx : Nat) (s x : Value) : Option (Value × Log × Nat) :=
  match ats with
  | [sT, xT] => match elemA P sT with
    | some (e, i) => match i.zero with
      | some z => match srcA P m i.size xT x with
        | some (k, new) => cond (Nat.beq z.cells.size i.size && Nat.ble i.bytes 100000 && Nat.ble k 100000)
          (match s with
          | .slice none 0 0 => cond (Nat.beq k 0) (some (.slice none 0 0, [], nx)) (some (.slice (some ⟨nx, 0, some 0⟩) k 0, [(nx, some (new, e, true))], nx + 1))
          | .slice (some ⟨id, 0, some q⟩) n c => match m id with
            | some (cs, e', rw) => cond (Nat.blt q 2 && rw && Nat.beq e e' && Nat.ble (n * i.size) cs.length && Nat.ble n 100000 && roomy q c (n + k))
              (some (.slice (some ⟨nx, 0, some 0⟩) (n + k) 0, [(nx, some (cs.take (n * i.size) ++ new, e, true)), (id, none)], nx + 1)) none
            | none => none
          | _ => none) none
        | none => none
      | none => none
    | none => none
  | _ => none

/-! ### bytes and texts, copy, clear -/
def byteOK : Value → Bool
  | .int .u8 (.ofNat n) => Nat.blt n 256
  | _ => false
def byteV : Value → UInt8
  | .int _ n => UInt8.ofNat n.toNat
  | _ => 0
def convA (P : Program) (src dst : TypeId) (m : Mem) (nx : Nat) (v : Value) : Option (Value × Log × Nat) :=
  match P.underlying src with
  | some .string => match P.underlying dst with
    | some (.slice e) => match P.underlying e with
      | some (.int .u8) => match v with
        | .string s => cond (Nat.beq (P.cellsOf e) 1) (some (.slice (some ⟨nx, 0, some 0⟩) s.size 0, [(nx, some (byteC s, e, true))], nx + 1)) none
        | _ => none
      | _ => none
    | _ => none
  | some (.slice e) => match P.underlying dst with
    | some .string => match P.underlying e with
      | some (.int .u8) => match v with
        | .slice (some ⟨id, off, some q⟩) n _ => match m id with
          | some (cs, _) => cond (Nat.blt q 2 && Nat.ble (off + n) cs.length && (cut cs off n).all byteOK) (some (.string ⟨((cut cs off n).map byteV).toArray⟩, [], nx)) none
          | none => none
        | _ => none
      | _ => none
    | _ => none
  | _ => none
def copyA (P : Program) (qts : List TypeId) (m : Mem) (nx : Nat) (d x : Value) : Option (Value × Log × Nat) :=
  match qts with
  | dT :: _ => match elemA P dT with
    | some (_, i) => match d with
      | .slice (some ⟨id, off, some q⟩) n _ => match m id with
        | some (cs, T, rw) => match x with
          | .slice (some ⟨j, o, some p⟩) k _ => match m j with
            | some (ds, _) => match cond (Nat.ble k n) k n with
              | c => cond (Nat.blt q 2 && Nat.blt p 2 && Nat.ble (off + c * i.size) cs.length && Nat.ble (o + c * i.size) ds.length && ds.all scal)
                (some (.int .i64 c, [(id, some (splice cs off (cut ds o (c * i.size)), T, rw))], nx)) none
            | none => none
          | _ => none
        | none => none
      | _ => none
    | none => none
  | _ => none
def clearA (P : Program) (qts : List TypeId) (m : Mem) (nx : Nat) (x : Value) : Option (Value × Log × Nat) :=
  match qts with
  | [T] => match elemA P T with
    | some (_, i) => match i.zero with
      | some z => match x with
        | .slice (some ⟨id, off, some q⟩) n _ => match n with
          | 0 => some (.tuple #[], [], nx)
          | k + 1 => match m id with
            | some (cs, U, rw) => cond (Nat.blt q 2 && Nat.beq z.cells.size i.size && z.cells.toList.all real0 && z.cells.toList.all scal && Nat.ble (off + (k + 1) * i.size) cs.length)
              (some (.tuple #[], [(id, some (splice cs off ((List.range ((k + 1) * z.cells.size)).map fun j => z.cells[j % z.cells.size]!), U, rw))], nx)) none
            | none => none
        | _ => none
      | none => none
    | none => none
  | _ => none

def opVal (P : Program) (o : Oper) (ev : Operand → Option Value) (m : Mem) (nx : Nat) : Option (Value × Log × Nat) :=
  match o.op with
  | .move x | .assign x => match ev x with
    | some v => some (v, [], nx)
    | none => none
  | .pick c a b => match ev c with
    | some (.bool t) => match ev a with
      | some va => match ev b with
        | some vb => match pickB va vb with
          | some (x, y) => some (.bool (cond t x y), [], nx)
          | none => match t with
            | true => some (va, [], nx)
            | false => some (vb, [], nx)
        | none => none
      | none => none
    | _ => none
  | .alloc T => match P.info? T with
    | some i => match i.zero with
      | some z => cond (z.cells.toList.all real0 && z.cells.toList.all scal) (some (.pointer (some ⟨nx, 0, some 0⟩), [(nx, some (z.cells.toList, T, false))], nx + 1)) none
      | none => none
    | none => none
  | .box T x => match ev x with
    | some v => cond (notTuple v && v.cells.toList.all scal) (some (.pointer (some ⟨nx, 0, some 0⟩), [(nx, some (v.cells.toList, T, false))], nx + 1)) none
    | none => none
  | .load T x => match ev x with
    | some p => match loadA P m T p with
      | some v => some (v, [], nx)
      | none => none
    | none => none
  | .store T x y => match ev x with
    | some p => match ev y with
      | some v => match storeA P m T v p with
        | some e => some (undef, [e], nx)
        | none => none
      | none => none
    | none => none
  | .nilCheck x => match ev x with
    | some (.pointer (some a)) => some (.pointer (some a), [], nx)
    | _ => none
  | .fieldAddr T x f => match ev x with
    | some (.pointer (some ⟨id, off, some k⟩)) => match structOf P T with
      | some fs => match fs[f]? with
        | some fd => match P.info? fd.type with
          | some i => cond (Nat.beq i.size 0) none (some (.pointer (some ⟨id, off + fd.offset, some 0⟩), [], nx))
          | none => none
        | none => none
      | none => none
    | some (.pointer (some ⟨b, off, none⟩)) => match structOf P T with
      | some fs => match fs[f]? with
        | some fd => match P.info? fd.type with
          | some i => cond (Nat.beq i.size 0) none (some (.pointer (some ⟨b, off + fd.offset, none⟩), [], nx))
          | none => none
        | none => none
      | none => none
    | _ => none
  | .build T ps => match buildA P T ev ps.toList with
    | some v => some (v, [], nx)
    | none => none
  | .extract x i => match ev x with
    | some (.tuple vs) => match vs[i]? with
      | some v => cond (notTuple v) (some (v, [], nx)) none
      | none => none
    | _ => none
  | .binOp op T x y _ => match ev x with
    | some a => match ev y with
      | some b => match cmpA P op T a b with
        | some v => some (v, [], nx)
        | none => plainR P o ev nx
      | none => none
    | none => none
  | .buildSlice T n ps => buildSliceA P T n ev ps.toList nx
  | .indexAddr T x i => match ev x with
    | some a => match ev i with
      | some j => match indexA P T a j with
        | some v => some (v, [], nx)
        | none => plainR P o ev nx
      | none => none
    | none => none
  | .slice T x lo hi mx => match ev x with
    | some a => match sliceA P m T ev a lo hi mx with
      | some v => some (v, [], nx)
      | none => plainR P o ev nx
    | none => none
  | .makeFunc f xs ys => match evL ev xs.toList with
    | some us => match evL ev ys.toList with
      | some vs => cond (us.all flat && vs.all flat) (some (.func f us.toArray vs.toArray, [], nx)) none
      | none => none
    | none => none
  | .call ⟨.builtin .append, args, ats⟩ => match evL ev args.toList with
    | some [s, x] => appendA P ats.toList m nx s x
    | _ => none
  | .call ⟨.builtin .len, args, ats⟩ => match evL ev args.toList with
    | some [.slice a n c] => match (ats.toList[0]?).bind P.underlying with
      | some (.slice _) => some (.int .i64 n, [], nx)
      | _ => none
    | _ => plainR P o ev nx
  | .call ⟨.builtin .copy, args, ats⟩ => match evL ev args.toList with
    | some [d, x] => copyA P ats.toList m nx d x
    | _ => none
  | .call ⟨.builtin .clear, args, ats⟩ => match evL ev args.toList with
    | some [x] => clearA P ats.toList m nx x
    | _ => none
  | .convert src dst x => match ev x with
    | some v => match convA P src dst m nx v with
      | some r => some r
      | none => plainR P o ev nx
    | none => none
  | _ => plainR P o ev nx
def opBase (P : Program) (call : CallF) (o : Oper) (ev : Operand → Option Value) (m : Mem) (nx : Nat) (ts : Ts) : Option Out :=
  match o.op with
  | .call ⟨.value (.func f), args, _⟩ => match evL ev args.toList with
    | some vs => cond (hasBody P f) (call f vs m nx ts) none
    | none => none
  | .call ⟨.value (.tmp t), args, _⟩ => match ev (.tmp t) with
    | some (.func (.func f) xs ys) => match evL ev args.toList with
      | some vs => cond (hasBody P f && xs.toList.all flat && ys.toList.all flat) (call f (xs.toList ++ vs ++ ys.toList) m nx ts) none
      | none => none
    | _ => none
  | _ => match opVal P o ev m nx with
    | some (v, l, n) => some ⟨v, l, n, ts⟩
    | none => none
/-- the blocks of these names, as they are -/
def snapA (m : Mem) : List Nat → Option (List (Nat × Blk))
  | [] => some []
  | i :: l => match m i with
    | some b => match snapA m l with
      | some r => some ((i, b) :: r)
      | none => none
    | none => none
def calleeA (ev : Operand → Option Value) : Op → Option (FuncId × List Value)
  | .call ⟨.value (.func f), args, _⟩ => match evL ev args.toList with
    | some vs => some (f, vs)
    | none => none
  | .call ⟨.value (.tmp t), args, _⟩ => match ev (.tmp t) with
    | some (.func (.func f) xs ys) => match evL ev args.toList with
      | some vs => cond (xs.toList.all flat && ys.toList.all flat) (some (f, xs.toList ++ vs ++ ys.toList)) none
      | none => none
    | _ => none
  | _ => none
def opStep (P : Program) (call : CallF) (o : Oper) (ev : Operand → Option Value) (m : Mem) (nx : Nat) (ts : Ts) : Option Out :=
  match ts.pop with
  | some (.op v, r) => cond (allReal ev o && real v) (some ⟨v, [], nx, ⟨ts.c, r, .s (semOf ev o) :: ts.ks⟩⟩) none
  | some (.call v, r) => match o.op with
    | .call ⟨.value (.func f), args, _⟩ => match evL ev args.toList with
      | some vs => cond (vs.all real && real v && hasBody P f) (some ⟨v, [], nx, ⟨ts.c, r, .c f vs :: ts.ks⟩⟩) none
      | none => none
    | _ => none
  | some (.callR ids v, r) => match o.op with
    | .call ⟨.value (.func f), args, _⟩ => match evL ev args.toList with
      | some vs => match snapA m ids with
        | some sn => cond (real v && hasBody P f) (some ⟨v, [], nx, ⟨ts.c, r, .cr f vs sn :: ts.ks⟩⟩) none
        | none => none
      | none => none
    | _ => none
  | some (.eq y, r) => match opVal P o ev m nx with
    | some (v, l, n) => some ⟨y, l, n, ⟨ts.c, r, .v v :: ts.ks⟩⟩
    | none => none
  | some (.con ids v out d, r) => match snapA m ids with
    | some sn => cond (outOK ids nx d out) (match calleeA ev o.op with
      | some (f, vs) => some ⟨v, outLog sn out, nx + d, ⟨ts.c, r, .cm f vs sn nx (hasBody P f) :: ts.ks⟩⟩
      | none => cond (allSome ev o) (some ⟨v, outLog sn out, nx + d, ⟨ts.c, r, .sm (semR ev o) sn nx :: ts.ks⟩⟩) none) none
    | none => none
  | some (.rd ids ws v out d, r) => match snapA m ids with
    | some sn => cond (outOK ws nx d out && ws.all (has1 ids)) (match calleeA ev o.op with
      | some (f, vs) => some ⟨v, logF sn ws out, nx + d, ⟨ts.c, r, .cm f vs sn nx (hasBody P f) :: ts.ks⟩⟩
      | none => cond (allSome ev o) (some ⟨v, logF sn ws out, nx + d, ⟨ts.c, r, .sm (semR ev o) sn nx :: ts.ks⟩⟩) none) none
    | none => none
  | _ => opBase P call o ev m nx ts

structure St where
  env : Env
  n : Nat
  mem : Mem
  log : Log
  nx : Nat
  ts : Ts
def St.put (st : St) (d : Option Tmp) (v : Value) : Option St :=
  match d with
  | none => some st
  | some t => cond (Nat.blt t st.n) (some { st with env := st.env.put t v }) none
def wantedA (ops : Array Oper) (env : Env) (o : Oper) (ts : Ts) : Option (Bool × Ts) :=
  match o.guard with
  | none => some (true, ts)
  | some (j, want) => match (ops[j]?).bind (·.dst) with
    | none => none
    | some d => match env d with
      | some (.bool b) => match ts.grd b with
        | (t, ts') => some (cond want t (!t), ts')
      | some (.tuple _) => some (false, ts)
      | _ => none
def isTmp (t : Nat) : Operand → Bool
  | .tmp s => Nat.beq s t
  | _ => false
/-- an operation's own operands alone -/
def restr (o : Oper) (e : Env) : Operand → Option Value
  | .tmp t => cond (o.op.operands.toList.any (isTmp t)) (e t) none
  | x => evalA e x
def runOp (P : Program) (call : CallF) (ops : Array Oper) (o : Oper) (ev : Operand → Option Value) (view : Mem) (st : St) : Option (Log × St) :=
  match wantedA ops st.env o st.ts with
  | some (true, ts) => match opStep P call o ev view st.nx ts with
    | some ⟨v, l, nx, ts'⟩ => match St.put ⟨st.env, st.n, st.mem.add l, l ++ st.log, nx, ts'.tick⟩ o.dst v with
      | some st' => some (l, st')
      | none => none
    | none => none
  | some (false, ts) => match St.put ⟨st.env, st.n, st.mem, st.log, st.nx, ts.tick⟩ o.dst undef with
    | some st' => some ([], st')
    | none => none
  | none => none
def runSeq (P : Program) (call : CallF) (ops : Array Oper) : List Oper → St → Option St
  | [], st => some st
  | o :: os, st => match runOp P call ops o (evalA st.env) st.mem st with
    | some (_, st') => runSeq P call ops os st'
    | none => none

/-! ### regions that draw their order -/
structure Seg where
  o : Oper
  k : List Nat
  w : List Nat
  r : Option (List Nat)
/-- what an operation looks at of the run's own memory, if that can be told ahead -/
def namesV : Option Value → Option (List Nat)
  | some (.pointer (some ⟨id, _, some _⟩)) => some [id]
  | some (.slice (some ⟨id, _, some _⟩) _ _) => some [id]
  | some _ => some []
  | none => none
def names2 (a b : Option (List Nat)) : Option (List Nat) := match a, b with
  | some x, some y => some (x ++ y)
  | _, _ => none
def readsOf (env : Env) : Op → Option (List Nat)
  | .load _ x | .slice _ x _ _ _ | .convert _ _ x | .indexAddr _ x _ => namesV (evalA env x)
  | .store _ x _ => namesV (evalA env x)
  | .call ⟨.builtin .append, #[x, y], _⟩ => names2 (namesV (evalA env x)) (namesV (evalA env y))
  | .call ⟨.builtin .len, _, _⟩ => some []
  | .move _ | .assign _ | .pick .. | .alloc _ | .box .. | .build .. | .buildSlice .. | .makeFunc .. | .nilCheck _ | .fieldAddr .. | .field .. | .extract .. | .binOp .. | .unOp .. | .index .. => some []
  | _ => none
def meets (a b : List Nat) : Bool := a.any (has1 b)
/-- the earlier operations that may come in either order with one -/
def beside (b : Nat) : Nat → List Seg → List Seg
  | _, [] => []
  | j, s :: l => cond (Nat.testBit b j) (beside b (j + 1) l) (s :: beside b (j + 1) l)
def seesOf (bes : List Seg) (r : Option (List Nat)) (m : Mem) : Mem := fun id =>
  cond (bes.any fun s => has1 s.k id) none
    (match r with
    | some l => cond (has1 l id) (m id) none
    | none => m id)
/-- what an operation waits for, by way of others too -/
def maskOf (bs : List Nat) : List Edge → Nat
  | [] => 0
  | e :: es => cond (Region.binds .any e) ((2 ^ e.on ||| bs.getD e.on 0) ||| maskOf bs es) (maskOf bs es)
def early (i : Nat) : List Edge → Bool
  | [] => true
  | e :: es => cond (Region.binds .any e) (Nat.blt e.on i && early i es) (early i es)
def clear (bes : List Seg) (w : List Nat) : Bool :=
  w.isEmpty || bes.all fun s => match s.r with
    | some l => !meets l w
    | none => false
def runDraw (P : Program) (call : CallF) (ops : Array Oper) : List Oper → List Nat → List Seg → St → Option St
  | [], _, _, st => some st
  | o :: os, bs, segs, st =>
    match maskOf bs o.after.toList with
    | b => match beside b 0 segs with
      | bes => match readsOf st.env o.op with
        | r => cond (early segs.length o.after.toList && bes.all fun s => s.o.apart ops o)
          (match runOp P call ops o (restr o st.env) (seesOf bes r st.mem) st with
          | some (l, st') => match (l.map (·.1)) with
            | k => match k.filter (fun x => !(Nat.ble st.nx x && Nat.blt x st'.nx)) with
              | w => cond (clear bes w) (runDraw P call ops os (bs ++ [b]) (segs ++ [⟨o, k, w, r⟩]) st') none
          | none => none) none

/-! ### code -/
def loopN (f : St → Option (X × St)) : Nat → St → Option (X × St)
  | 0, _ => none
  | k + 1, st => match f st with
    | some (.nrm, st') => loopN f k st'
    | r => r
def nrm : Option St → Option (X × St)
  | some st => some (.nrm, st)
  | none => none
def exec (P : Program) (call : CallF) (fuel : Nat) : Code → St → Option (X × St)
  | .skip, st => some (.nrm, st)
  | .label _, st => some (.nrm, st)
  | .region _ ops false, st => nrm (runSeq P call ops ops.toList st)
  | .region _ ops true, st => nrm (runDraw P call ops ops.toList [] [] st)
  | .seq a b, st => match exec P call fuel a st with
    | some (.nrm, st') => exec P call fuel b st'
    | r => r
  | .cond c a b, st => match evalA st.env c with
    | some (.bool x) => match st.ts.bool x with
      | (true, ts) => exec P call fuel a { st with ts := ts.tick }
      | (false, ts) => exec P call fuel b { st with ts := ts.tick }
    | _ => none
  | .block id c, st => match exec P call fuel c st with
    | some (.ex j, st') => cond (Nat.beq j id) (some (.nrm, st')) (some (.ex j, st'))
    | r => r
  | .loop c, st => match st.ts.pop with
    | some (.lp slots ids x vals out d, r) => match look st.env slots with
      | some vs => match snapA st.mem ids with
        | some sn => cond (outOK ids st.nx d out) (some (x, ⟨envL vals, st.n, st.mem.add (outLog sn out), outLog sn out ++ st.log, st.nx + d, ⟨st.ts.c, r, .lp c st.n vs sn st.nx :: st.ts.ks⟩⟩)) none
        | none => none
      | none => none
    | _ => loopN (exec P call fuel c) fuel st
  | .exit id, st => some (.ex id, st)
  | .ret, st => some (.ret, st)
  | _, _ => none
def resA (P : Program) (env : Env) (m : Mem) : List ResultVar → Option (List Value)
  | [] => some []
  | .tmp t :: l => match env t with
    | some v => match resA P env m l with
      | some vs => some (v :: vs)
      | none => none
    | none => none
  | .cell a T :: l => match env a with
    | some p => match loadA P m T p with
      | some v => match resA P env m l with
        | some vs => some (v :: vs)
        | none => none
      | none => none
    | none => none
def one : List Value → Value
  | [v] => v
  | vs => .tuple vs.toArray
def env0 (args : List Value) (n : Nat) : Env := fun t => match args[t]? with
  | some v => some v
  | none => cond (Nat.blt t n) (some undef) none
def maxN (a b : Nat) : Nat := cond (Nat.ble a b) b a
def callN (P : Program) : Nat → CallF
  | 0 => fun _ _ _ _ _ => none
  | k + 1 => fun f args m nx ts =>
    match P.funcs[f]? with
    | some fn => match fn.body with
      | some c => match exec P (callN P k) k c ⟨env0 args fn.ntmps, maxN args.length fn.ntmps, m, [], nx, ts⟩ with
        | some (.ex _, _) => none
        | some (_, st) => match resA P st.env st.mem fn.results.toList with
          | some vs => cond (vs.all notTuple) (some ⟨one vs, st.log, st.nx, st.ts⟩) none
          | none => none
        | none => none
      | none => none
    | none => none
def fuel0 : Nat := 100000
/-- a run from a call on: what comes back, and what was asked -/
def go (P : Program) (f : FuncId) (args : List Value) (qs : List (Nat × Ans)) : Option Out := callN P fuel0 f args (fun _ => none) 0 ⟨0, qs, []⟩
end Rx
end Go.Proofs.YtilfcikhipadpaaGreatDoor
end
