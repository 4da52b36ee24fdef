/- Several texts of this claim, one behind the other. -/
import Derived.Test.YtilfcikhipadpaaDoorM15
import Derived.Test.YtilfcikhipadpaaDoorProg
import Derived.Deep.RegionHeld

section
/- rules: what loops ask of a slice of rules. -/
set_option linter.unusedVariables false
set_option linter.unusedSimpArgs false
namespace Go.Proofs.YtilfcikhipadpaaDoor
open Go.RowKit Go.Lib
attribute [local go_sem] Oper.semAt_some

theorem RR.rows {W : World} {l : List Rule} {v : Value} (h : RR W v l) : ∃ A c, v = .slice A l.length c ∧ (0 < l.length → ∃ g, A = some ⟨g, 0, none⟩ ∧ g < W.heap.size ∧ ∀ k (hk : k < l.length) i u, i < 11 → (l[k]).cells.toList[i]? = some u → W.cell? ⟨g, k * 11 + i, none⟩ = some u) := by
  obtain ⟨A, c, hv⟩ := slice_of h
  refine ⟨A, c, hv, fun hn => ?_⟩
  obtain ⟨g, c', hv', hg, _, _, hc⟩ := RR.cell h (by rintro rfl; simp at hn)
  rw [hv] at hv'
  cases hv'
  exact ⟨g, rfl, hg, fun k hk i u hi hu => hc _ _ (by rw [cellsOf_at hk hi]; exact hu)⟩
theorem TS.b {W W' : World} {B : Nat} {o ip b : Int} {l : List Rule} {v : Value} (k : Below W.heap.size W W') (h : TS W B o ip b l v) : TS W' B o ip b l v := h.below k
/-- the first rule that fits, as it lies -/
def rawR (p : Rule → Bool) (l : List Rule) : Rule := match l.find? p with | some r => r | none => zeroR
theorem firstR_raw (o : Int) (p : Rule → Bool) (l : List Rule) (hp : ∀ r, p r = true → r.k = 3) : firstR o p l = rawR p l := by
  unfold firstR rawR
  cases h : l.find? p with
  | none => rfl
  | some r => exact (show wholeR o r = r by unfold wholeR; rw [if_neg (by have := hp r (List.find?_some h); omega)])
end Go.Proofs.YtilfcikhipadpaaDoor
end

section
/- A region in an open order whose last operations need not keep what its loads read: wpAnyJ. -/
set_option linter.unusedVariables false
namespace Go.Proofs.YtilfcikhipadpaaDoor
section
variable {P : Program} {ops : Array Oper} {Q : Exit → Act → World → Prop} {md : Region.Mode} {S : World → Prop} {N : List Nat}

/-- whatever order is picked from here on; behind each operation that is not one of N the condition S holds -/
def wpAnyJ (P : Program) (md : Region.Mode) (ops : Array Oper) (Q : Exit → Act → World → Prop) (S : World → Prop) (N : List Nat) : Nat → Array Bool → Act → World → Prop
  | 0, l, a, w => Region.ready md ops l = [] ∧ Q .normal a w
  | f + 1, l, a, w => (Region.ready md ops l = [] → Q .normal a w) ∧ ∀ i ∈ Region.ready md ops l, wpOp P ops Q i (fun a' w' => (i ∈ N ∨ S w') ∧ wpAnyJ P md ops Q S N f (l.setIfInBounds i true) a' w') a w

theorem wpAny_of_J : ∀ (f : Nat) (l : Array Bool) (a : Act) (w : World), wpAnyJ P md ops Q S N f l a w → wpAny P md ops Q f l a w
  | 0, _, _, _, h => h
  | f + 1, _, _, _, h => ⟨h.1, fun i hi => wpOp_mono (fun a' w' k => wpAny_of_J f _ a' w' k.2) (h.2 i hi)⟩

/-- each of the last operations waits for i -/
def lastWait (md : Region.Mode) (ops : Array Oper) (N : List Nat) (i : Nat) : Bool :=
  N.all fun n => n != i && (match ops[n]? with | some o => o.after.any fun e => e.on == i && Region.binds md e | none => true)

theorem lastWait_not {i n : Nat} {l : Array Bool} (h : lastWait md ops N i = true) (hn : n ∈ N) (hi : i ∈ Region.ready md ops l) (hr : n ∈ Region.ready md ops l) : False := by
  have h1 := List.all_eq_true.1 h n hn
  obtain ⟨_, o, ho, hall⟩ := mem_ready.1 hr
  simp only [ho, Bool.and_eq_true, Array.any_eq_true, beq_iff_eq] at h1
  obtain ⟨_, k, hk, he, hb⟩ := h1
  have h2 := hall _ (Array.getElem_mem hk) hb
  rw [he] at h2
  have h0 := (mem_ready.1 hi).1
  rcases Nat.lt_or_ge i l.size with h' | h'
  · simp [h'] at h0 h2; rw [h0] at h2; cases h2
  · simp [Array.getElem?_eq_none h'] at h2

theorem wpAnyJ_first {i : Nat} {oi : Oper} {v : Value} (hi : ops[i]? = some oi) (hsel : ∀ (j : Nat) (o : Oper) cs b, ops[j]? = some o → o.op ≠ .select cs b)
    (hQ : ∀ c a w, Q (.panic c) (a.put oi.dst v) w → Q (.panic c) a w) (hN : lastWait md ops N i = true) :
    ∀ (f : Nat) (l : Array Bool) (a : Act) (w : World),
      (∀ j oj, ops[j]? = some oj → j ≠ i → l.getD j true = false → (∀ e ∈ oj.after, Region.binds md e = true → e.on ≠ i) → oi.apart ops oj = true) →
      i ∈ Region.ready md ops l → YieldsIf P ops S oi v a → S w →
      wpAnyJ P md ops Q S N f (l.setIfInBounds i true) (a.put oi.dst v) w → wpAnyJ P md ops Q S N (f + 1) l a w := by
  intro f
  induction f with
  | zero =>
    intro l a w _ hr hy hS H
    refine ⟨fun h => (by rw [h] at hr; cases hr), fun j hj => ?_⟩
    by_cases hji : j = i
    · subst hji; exact hy.wpOp hi hS ⟨Or.inr hS, H⟩
    · have := ready_mono hj hji
      rw [H.1] at this
      cases this
  | succ f ih =>
    intro l a w hfree hr hy hS H
    refine ⟨fun h => (by rw [h] at hr; cases hr), fun j hj => ?_⟩
    by_cases hji : j = i
    · subst hji; exact hy.wpOp hi hS ⟨Or.inr hS, H⟩
    have hjN : j ∉ N := fun hn => lastWait_not hN hn hr hj
    obtain ⟨hjun, oj, hoj, hall⟩ := mem_ready.1 hj
    have hnot : ∀ e ∈ oj.after, Region.binds md e = true → e.on ≠ i := fun e he hb heq => by
      have h1 := hall e he hb
      have h0 := (mem_ready.1 hr).1
      rw [heq] at h1
      rcases Nat.lt_or_ge i l.size with h' | h'
      · simp [h'] at h0 h1; rw [h0] at h1; cases h1
      · simp [Array.getElem?_eq_none h'] at h1
    have h2 := wpOp_putIf hoj (hfree j oj hoj hji hjun hnot) (fun cs b => hsel i oi cs b hi) (fun cs b => hsel j oj cs b hoj) hQ hy (H.2 j (ready_mono hj hji))
    have hfree' : ∀ k ok, ops[k]? = some ok → k ≠ i → (l.setIfInBounds j true).getD k true = false →
        (∀ e ∈ ok.after, Region.binds md e = true → e.on ≠ i) → oi.apart ops ok = true := fun k ok hk hki hun hno => by
      refine hfree k ok hk hki ?_ hno
      by_cases hjk : j = k
      · subst hjk; exact hjun
      · rw [getD_set_ne true hjk] at hun; exact hun
    refine wpOp_mono (fun a' w' h3 => ?_) h2
    obtain ⟨hy', hS', H'⟩ := h3
    rcases hS' with hS' | hS'
    · exact absurd hS' hjN
    · refine ⟨Or.inr hS', ih (l.setIfInBounds j true) a' w' hfree' (ready_mono hr (Ne.symm hji)) hy' hS' ?_⟩
      rw [Array.setIfInBounds_comm _ _ hji]
      exact H'

theorem wpAnyJ_take {i : Nat} {oi : Oper} {v : Value} {f : Nat} {l : Array Bool} {a : Act} {w : World} (hi : ops[i]? = some oi)
    (hs : Region.noSelect ops = true) (hf : Region.free md ops l i = true) (hr : (Region.ready md ops l).contains i = true) (hN : lastWait md ops N i = true)
    (hQ : ∀ c a w, Q (.panic c) (a.put oi.dst v) w → Q (.panic c) a w) (hy : YieldsIf P ops S oi v a) (hS : S w)
    (h : wpAnyJ P md ops Q S N f (l.setIfInBounds i true) (a.put oi.dst v) w) : wpAnyJ P md ops Q S N (f + 1) l a w :=
  wpAnyJ_first hi (Region.noSelect_spec hs) hQ hN f l a w (Region.free_spec hi hf) (by simpa using hr) hy hS h

def AllReadyJ (P : Program) (md : Region.Mode) (ops : Array Oper) (Q : Exit → Act → World → Prop) (S : World → Prop) (N : List Nat) (f : Nat) (l : Array Bool) (a : Act) (w : World) (rs : List Nat) : Prop :=
  ∀ i ∈ rs, wpOp P ops Q i (fun a' w' => (i ∈ N ∨ S w') ∧ wpAnyJ P md ops Q S N f (l.setIfInBounds i true) a' w') a w
theorem AllReadyJ.nil {f : Nat} {l : Array Bool} {a : Act} {w : World} : AllReadyJ P md ops Q S N f l a w [] := fun _ h => by cases h
theorem AllReadyJ.cons {f : Nat} {l : Array Bool} {a : Act} {w : World} {i : Nat} {o : Oper} {rs : List Nat} (ho : ops[i]? = some o)
    (h : ∀ K' : Act → World → Prop, Shut (∀ a w, S w → (S w → wpAnyJ P md ops Q S N f (l.setIfInBounds i true) a w) → K' a w) → if Region.wanted o (yielded ops a.tmps) = true then Oper.wp P o a w K' Q else K' (a.put o.dst undef) w)
    (hs : AllReadyJ P md ops Q S N f l a w rs) : AllReadyJ P md ops Q S N f l a w (i :: rs) := fun j hj => by
  rcases List.mem_cons.1 hj with rfl | hj
  · exact wpOp_step ho (fun K' hK => h K' (fun a w hS hW => hK a w ⟨Or.inr hS, hW hS⟩))
  · exact hs j hj
/-- one of the last operations: nothing is asked behind it -/
theorem AllReadyJ.last {f : Nat} {l : Array Bool} {a : Act} {w : World} {i : Nat} {o : Oper} {rs : List Nat} (ho : ops[i]? = some o) (hN : N.contains i = true)
    (h : ∀ K' : Act → World → Prop, Shut (∀ a w, wpAnyJ P md ops Q S N f (l.setIfInBounds i true) a w → K' a w) → if Region.wanted o (yielded ops a.tmps) = true then Oper.wp P o a w K' Q else K' (a.put o.dst undef) w)
    (hs : AllReadyJ P md ops Q S N f l a w rs) : AllReadyJ P md ops Q S N f l a w (i :: rs) := fun j hj => by
  rcases List.mem_cons.1 hj with rfl | hj
  · exact wpOp_step ho (fun K' hK => h K' (fun a w hW => hK a w ⟨Or.inl (by simpa using hN), hW⟩))
  · exact hs j hj
theorem wpAnyJ_ready {rs : List Nat} {f : Nat} {l : Array Bool} {a : Act} {w : World} (hr : Region.ready md ops l = rs) (hne : rs ≠ [])
    (h : AllReadyJ P md ops Q S N f l a w rs) : wpAnyJ P md ops Q S N (f + 1) l a w :=
  ⟨fun h0 => absurd (hr ▸ h0) hne, fun i hi => h i (hr ▸ hi)⟩
theorem wpAnyJ_done {l : Array Bool} {a : Act} {w : World} (hr : Region.ready md ops l = []) (h : Q .normal a w) : ∀ f, wpAnyJ P md ops Q S N f l a w
  | 0 => ⟨hr, h⟩
  | _ + 1 => ⟨fun _ => h, by rw [hr]; simp⟩
theorem wp_region_J {id : Nat} {a : Act} {w : World} (N : List Nat) (S : World → Prop) (hm : P.follows .mixedOrders = true) (hS : S w.drew)
    (h : S w.drew → wpAnyJ P .any ops Q S N ops.size (Array.replicate ops.size false) a w.drew) : (Code.region id ops true).wp P Q a w :=
  wp_region_any hm (wpAny_of_J _ _ _ _ (h hS))
end
end Go.Proofs.YtilfcikhipadpaaDoor
end
