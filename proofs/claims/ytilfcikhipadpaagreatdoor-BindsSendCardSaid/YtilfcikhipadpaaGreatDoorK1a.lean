/- Several texts of this claim, one behind the other. -/
import Derived.Test.YtilfcikhipadpaaGreatDoorK0
import Derived.Laws.Strings

section
/- An operation's run hangs on its operands alone: for wide frames. -/
set_option linter.unusedVariables false
namespace Go.Proofs.YtilfcikhipadpaaGreatDoor

def lookV : List Nat → List Value → Nat → Value
  | k :: ks, v :: vs, t => if t = k then v else lookV ks vs t
  | _, _, _ => undef
def envL (ks : List Nat) (vs : List Value) : Operand → Value
  | .tmp t => lookV ks vs t
  | .const v => v
  | .global g => .pointer (some ⟨g, 0, none⟩)
  | .func f => .func (.func f) #[] #[]
end Go.Proofs.YtilfcikhipadpaaGreatDoor
end

section
/- A region in an open order whose last operations wait for an operation by way of others: wpAnyJ_takeB. -/
set_option linter.unusedVariables false
namespace Go.Proofs.YtilfcikhipadpaaGreatDoor
section
variable {P : Program} {ops : Array Oper} {Q : Exit → Act → World → Prop} {md : Region.Mode} {S : World → Prop} {N : List Nat}

/-- B: not done yet, and each of them, but i, waits for another one of them; the last operations are among them -/
def pathWait (md : Region.Mode) (ops : Array Oper) (l : Array Bool) (N B : List Nat) (i : Nat) : Bool :=
  N.all (fun n => n != i && B.contains n) && B.all fun b => l.getD b true == false && (b == i || (match ops[b]? with | some o => o.after.any fun e => B.contains e.on && Region.binds md e | none => false))

theorem wpAnyJ_firstB {i : Nat} {oi : Oper} {v : Value} (B : List Nat) (hi : ops[i]? = some oi) (hsel : ∀ (j : Nat) (o : Oper) cs b, ops[j]? = some o → o.op ≠ .select cs b)
    (hQ : ∀ c a w, Q (.panic c) (a.put oi.dst v) w → Q (.panic c) a w) (hN : ∀ n ∈ N, n ≠ i ∧ n ∈ B)
    (hB : ∀ b ∈ B, b ≠ i → ∃ ob, ops[b]? = some ob ∧ ∃ e ∈ ob.after, e.on ∈ B ∧ Region.binds md e = true) :
    ∀ (f : Nat) (l : Array Bool) (a : Act) (w : World), (∀ b ∈ B, l.getD b true = false) →
      (∀ j oj, ops[j]? = some oj → j ≠ i → l.getD j true = false → (∀ e ∈ oj.after, Region.binds md e = true → e.on ≠ i) → oi.apart ops oj = true) →
      i ∈ Region.ready md ops l → YieldsIf P ops S oi v a → S w →
      wpAnyJ P md ops Q S N f (l.setIfInBounds i true) (a.put oi.dst v) w → wpAnyJ P md ops Q S N (f + 1) l a w := by
  intro f
  induction f with
  | zero =>
    intro l a w _ _ hr hy hS H
    refine ⟨fun h => (by rw [h] at hr; cases hr), fun j hj => ?_⟩
    by_cases hji : j = i
    · subst hji; exact hy.wpOp hi hS ⟨Or.inr hS, H⟩
    · have := ready_mono hj hji
      rw [H.1] at this
      cases this
  | succ f ih =>
    intro l a w hU hfree hr hy hS H
    refine ⟨fun h => (by rw [h] at hr; cases hr), fun j hj => ?_⟩
    by_cases hji : j = i
    · subst hji; exact hy.wpOp hi hS ⟨Or.inr hS, H⟩
    obtain ⟨hjun, oj, hoj, hall⟩ := mem_ready.1 hj
    have hjB : j ∉ B := fun hb => by
      obtain ⟨ob, h1, e, h2, h3, h4⟩ := hB j hb hji
      rw [hoj] at h1
      cases h1
      have h5 := hall e h2 h4
      have h6 := hU _ h3
      rcases Nat.lt_or_ge e.on l.size with h' | h'
      · simp [h'] at h5 h6; rw [h6] at h5; cases h5
      · simp [Array.getElem?_eq_none h'] at h5 h6
    have hjN : j ∉ N := fun hn => hjB (hN j hn).2
    have hnot : ∀ e ∈ oj.after, Region.binds md e = true → e.on ≠ i := fun e he hb heq => by
      have h1 := hall e he hb
      have h0 := (mem_ready.1 hr).1
      rw [heq] at h1
      rcases Nat.lt_or_ge i l.size with h' | h'
      · simp [h'] at h0 h1; rw [h0] at h1; cases h1
      · simp [Array.getElem?_eq_none h'] at h1
    have h2 := wpOp_putIf hoj (hfree j oj hoj hji hjun hnot) (fun cs b => hsel i oi cs b hi) (fun cs b => hsel j oj cs b hoj) hQ hy (H.2 j (ready_mono hj hji))
    have hfree' : ∀ k ok, ops[k]? = some ok → k ≠ i → (l.setIfInBounds j true).getD k true = false →
        (∀ e ∈ ok.after, Region.binds md e = true → e.on ≠ i) → oi.apart ops ok = true := fun k ok hk hki hun hno => by
      refine hfree k ok hk hki ?_ hno
      by_cases hjk : j = k
      · subst hjk; exact hjun
      · rw [getD_set_ne true hjk] at hun; exact hun
    have hU' : ∀ b ∈ B, (l.setIfInBounds j true).getD b true = false := fun b hb => by
      have hne : j ≠ b := fun h => hjB (by rw [h]; exact hb)
      rw [getD_set_ne true hne]; exact hU b hb
    refine wpOp_mono (fun a' w' h3 => ?_) h2
    obtain ⟨hy', hS', H'⟩ := h3
    rcases hS' with hS' | hS'
    · exact absurd hS' hjN
    · refine ⟨Or.inr hS', ih (l.setIfInBounds j true) a' w' hU' hfree' (ready_mono hr (Ne.symm hji)) hy' hS' ?_⟩
      rw [Array.setIfInBounds_comm _ _ hji]
      exact H'
theorem wpAnyJ_takeB {i : Nat} {oi : Oper} {v : Value} {f : Nat} {l : Array Bool} {a : Act} {w : World} (B : List Nat) (hi : ops[i]? = some oi)
    (hs : Region.noSelect ops = true) (hf : Region.free md ops l i = true) (hr : (Region.ready md ops l).contains i = true) (hN : pathWait md ops l N B i = true)
    (hQ : ∀ c a w, Q (.panic c) (a.put oi.dst v) w → Q (.panic c) a w) (hy : YieldsIf P ops S oi v a) (hS : S w)
    (h : wpAnyJ P md ops Q S N f (l.setIfInBounds i true) (a.put oi.dst v) w) : wpAnyJ P md ops Q S N (f + 1) l a w := by
  unfold pathWait at hN
  simp only [Bool.and_eq_true, List.all_eq_true, bne_iff_ne, ne_eq, List.contains_iff_mem, beq_iff_eq, Bool.or_eq_true] at hN
  refine wpAnyJ_firstB B hi (Region.noSelect_spec hs) hQ hN.1 (fun b hb hne => ?_) f l a w (fun b hb => (hN.2 b hb).1) (Region.free_spec hi hf) (by simpa using hr) hy hS h
  have h1 := (hN.2 b hb).2
  rcases h1 with h1 | h1
  · exact absurd h1 hne
  · cases ho : ops[b]? with
    | none => rw [ho] at h1; cases h1
    | some o =>
      rw [ho] at h1
      simp only [Array.any_eq_true, Bool.and_eq_true, List.contains_iff_mem] at h1
      obtain ⟨k, hk, h2, h3⟩ := h1
      exact ⟨o, rfl, _, Array.getElem_mem hk, h2, h3⟩
end
end Go.Proofs.YtilfcikhipadpaaGreatDoor
end

section
/- Short words for the walks: whole blocks' cells at once, moves of drawn regions. No program. -/
set_option linter.unusedVariables false
namespace Go.Proofs.YtilfcikhipadpaaGreatDoor
open Go.RowKit

theorem putS {α : Type} : (∀ (xs : List α) (i : Nat) (a : α), xs.toArray.setIfInBounds i a = (xs.set i a).toArray) ∧ (∀ (a b : α) (t : List α), (a :: t).set 0 b = b :: t) ∧ (∀ (a b : α) (t : List α) (n : Nat), (a :: t).set (n + 1) b = a :: t.set n b) ∧
    (∀ (xs : List α) (i : Nat) (h : i < xs.toArray.size), xs.toArray[i]'h = xs[i]'(by simpa using h)) ∧ (∀ (a : α) (t : List α) (i : Nat) (h : i + 1 < (a :: t).length), (a :: t)[i + 1]'h = t[i]'(by simpa using h)) ∧ (∀ (a : α) (t : List α) (h : 0 < (a :: t).length), (a :: t)[0]'h = a) :=
  ⟨fun _ _ _ => List.setIfInBounds_toArray .., fun _ _ _ => rfl, fun _ _ _ _ => rfl, fun _ _ _ => rfl, fun _ _ _ _ => rfl, fun _ _ _ => rfl⟩
theorem putG {α : Type} : (∀ (xs : List α) (i : Nat) (h : i < xs.toArray.size), xs.toArray[i]'h = xs[i]'(by simpa using h)) ∧ (∀ (a : α) (t : List α) (i : Nat) (h : i + 1 < (a :: t).length), (a :: t)[i + 1]'h = t[i]'(by simpa using h)) ∧ (∀ (a : α) (t : List α) (h : 0 < (a :: t).length), (a :: t)[0]'h = a) :=
  ⟨fun _ _ _ => rfl, fun _ _ _ _ => rfl, fun _ _ _ => rfl⟩
theorem Cells.x4 {w : World} {b : Nat} {a0 a1 a2 a3 : Value} {T : TypeId} (h : Cells w b #[a0, a1, a2, a3] T) : w.cell? ⟨b, 0, none⟩ = some a0 ∧ w.cell? ⟨b, 1, none⟩ = some a1 ∧ w.cell? ⟨b, 2, none⟩ = some a2 ∧ w.cell? ⟨b, 3, none⟩ = some a3 := ⟨h.at_ 0, h.at_ 1, h.at_ 2, h.at_ 3⟩
theorem Cells.x5 {w : World} {b : Nat} {a0 a1 a2 a3 a4 : Value} {T : TypeId} (h : Cells w b #[a0, a1, a2, a3, a4] T) : w.cell? ⟨b, 0, none⟩ = some a0 ∧ w.cell? ⟨b, 1, none⟩ = some a1 ∧ w.cell? ⟨b, 2, none⟩ = some a2 ∧ w.cell? ⟨b, 3, none⟩ = some a3 ∧ w.cell? ⟨b, 4, none⟩ = some a4 := ⟨h.at_ 0, h.at_ 1, h.at_ 2, h.at_ 3, h.at_ 4⟩
theorem Cells.y5 {w : World} {b : Nat} {a0 a1 a2 a3 a4 : Value} {T : TypeId} (h : Cells w b #[a0, a1, a2, a3, a4] T) : w.frozen? ⟨b, 0, none⟩ = false ∧ w.frozen? ⟨b, 1, none⟩ = false ∧ w.frozen? ⟨b, 2, none⟩ = false ∧ w.frozen? ⟨b, 3, none⟩ = false ∧ w.frozen? ⟨b, 4, none⟩ = false := ⟨h.free 0, h.free 1, h.free 2, h.free 3, h.free 4⟩
theorem Cells.x8 {w : World} {b : Nat} {a0 a1 a2 a3 a4 a5 a6 a7 : Value} {T : TypeId} (h : Cells w b #[a0, a1, a2, a3, a4, a5, a6, a7] T) : w.cell? ⟨b, 0, none⟩ = some a0 ∧ w.cell? ⟨b, 1, none⟩ = some a1 ∧ w.cell? ⟨b, 2, none⟩ = some a2 ∧ w.cell? ⟨b, 3, none⟩ = some a3 ∧ w.cell? ⟨b, 4, none⟩ = some a4 ∧ w.cell? ⟨b, 5, none⟩ = some a5 ∧ w.cell? ⟨b, 6, none⟩ = some a6 ∧ w.cell? ⟨b, 7, none⟩ = some a7 := ⟨h.at_ 0, h.at_ 1, h.at_ 2, h.at_ 3, h.at_ 4, h.at_ 5, h.at_ 6, h.at_ 7⟩
theorem Cells.y8 {w : World} {b : Nat} {a0 a1 a2 a3 a4 a5 a6 a7 : Value} {T : TypeId} (h : Cells w b #[a0, a1, a2, a3, a4, a5, a6, a7] T) : w.frozen? ⟨b, 0, none⟩ = false ∧ w.frozen? ⟨b, 1, none⟩ = false ∧ w.frozen? ⟨b, 2, none⟩ = false ∧ w.frozen? ⟨b, 3, none⟩ = false ∧ w.frozen? ⟨b, 4, none⟩ = false ∧ w.frozen? ⟨b, 5, none⟩ = false ∧ w.frozen? ⟨b, 6, none⟩ = false ∧ w.frozen? ⟨b, 7, none⟩ = false := ⟨h.free 0, h.free 1, h.free 2, h.free 3, h.free 4, h.free 5, h.free 6, h.free 7⟩
section
variable {P : Program} {ops : Array Oper} {Q : Exit → Act → World → Prop} {S : World → Prop} {N : List Nat} {md : Region.Mode} {oi : Oper} {v : Value} {f : Nat} {l : Array Bool} {a : Act} {w : World}
theorem tH (i : Nat) (hi : ops[i]? = some oi) (hS : S w) (h : wpAnyH P md ops Q S f (l.setIfInBounds i true) (a.put oi.dst v) w)
    (hs : Region.noSelect ops = true := by kernel_rfl) (hf : Region.free md ops l i = true := by kernel_rfl) (hr : (Region.ready md ops l).contains i = true := by kernel_rfl)
    (hQ : ∀ c a w, Q (.panic c) (a.put oi.dst v) w → Q (.panic c) a w := by exact fun _ _ _ h => h) (hg : Region.wanted oi (yielded ops a.tmps) = true := by rfl)
    (hy : ∀ w, S w → (execOp a.eval oi).run P w = .ok (.value v) w := by (intro w _; (try dsimp only); (try go_simp); (try with_reducible rfl))) : wpAnyH P md ops Q S (f + 1) l a w :=
  wpAnyH_take hi hs hf hr hQ (Or.inl ⟨hg, hy⟩) hS h
end
end Go.Proofs.YtilfcikhipadpaaGreatDoor
end

section
/- How texts are compared in a walk. No program. -/
set_option linter.unusedVariables false
namespace Go.Proofs.YtilfcikhipadpaaGreatDoor
open Go.RowKit

theorem toList_inj {s t : ByteArray} (h : s.toList = t.toList) : s = t := by
  rw [ByteArray.toList_eq, ByteArray.toList_eq] at h
  exact L_inj h
end Go.Proofs.YtilfcikhipadpaaGreatDoor
end
