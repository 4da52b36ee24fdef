/- Several texts of this claim, one behind the other. -/
import Derived.Test.YtilfcikhipadpaaGreatDoorProg
import Derived.Deep.RegionHeld

section
/- A region in an open order whose last operations need not keep what its loads read: wpAnyJ. -/
set_option linter.unusedVariables false
namespace Go.Proofs.YtilfcikhipadpaaGreatDoor
section
variable {P : Program} {ops : Array Oper} {Q : Exit → Act → World → Prop} {md : Region.Mode} {S : World → Prop} {N : List Nat}

/-- whatever order is picked from here on; behind each operation that is not one of N the condition S holds -/
def wpAnyJ (P : Program) (md : Region.Mode) (ops : Array Oper) (Q : Exit → Act → World → Prop) (S : World → Prop) (N : List Nat) : Nat → Array Bool → Act → World → Prop
  | 0, l, a, w => Region.ready md ops l = [] ∧ Q .normal a w
  | f + 1, l, a, w => (Region.ready md ops l = [] → Q .normal a w) ∧ ∀ i ∈ Region.ready md ops l, wpOp P ops Q i (fun a' w' => (i ∈ N ∨ S w') ∧ wpAnyJ P md ops Q S N f (l.setIfInBounds i true) a' w') a w

theorem wpAny_of_J : ∀ (f : Nat) (l : Array Bool) (a : Act) (w : World), wpAnyJ P md ops Q S N f l a w → wpAny P md ops Q f l a w
  | 0, _, _, _, h => h
  | f + 1, _, _, _, h => ⟨h.1, fun i hi => wpOp_mono (fun a' w' k => wpAny_of_J f _ a' w' k.2) (h.2 i hi)⟩

/-- each of the last operations waits for i -/
def lastWait (md : Region.Mode) (ops : Array Oper) (N : List Nat) (i : Nat) : Bool :=
  N.all fun n => n != i && (match ops[n]? with | some o => o.after.any fun e => e.on == i && Region.binds md e | none => true)

theorem lastWait_not {i n : Nat} {l : Array Bool} (h : lastWait md ops N i = true) (hn : n ∈ N) (hi : i ∈ Region.ready md ops l) (hr : n ∈ Region.ready md ops l) : False := by
  have h1 := List.all_eq_true.1 h n hn
  obtain ⟨_, o, ho, hall⟩ := mem_ready.1 hr
  simp only [ho, Bool.and_eq_true, Array.any_eq_true, beq_iff_eq] at h1
  obtain ⟨_, k, hk, he, hb⟩ := h1
  have h2 := hall _ (Array.getElem_mem hk) hb
  rw [he] at h2
  have h0 := (mem_ready.1 hi).1
  rcases Nat.lt_or_ge i l.size with h' | h'
  · simp [h'] at h0 h2; rw [h0] at h2; cases h2
  · simp [Array.getElem?_eq_none h'] at h2

theorem wpAnyJ_first {i : Nat} {oi : Oper} {v : Value} (hi : ops[i]? = some oi) (hsel : ∀ (j : Nat) (o : Oper) cs b, ops[j]? = some o → o.op ≠ .select cs b)
    (hQ : ∀ c a w, Q (.panic c) (a.put oi.dst v) w → Q (.panic c) a w) (hN : lastWait md ops N i = true) :
    ∀ (f : Nat) (l : Array Bool) (a : Act) (w : World),
      (∀ j oj, ops[j]? = some oj → j ≠ i → l.getD j true = false → (∀ e ∈ oj.after, Region.binds md e = true → e.on ≠ i) → oi.apart ops oj = true) →
      i ∈ Region.ready md ops l → YieldsIf P ops S oi v a → S w →
      wpAnyJ P md ops Q S N f (l.setIfInBounds i true) (a.put oi.dst v) w → wpAnyJ P md ops Q S N (f + 1) l a w := by
  intro f
  induction f with
  | zero =>
    intro l a w _ hr hy hS H
    refine ⟨fun h => (by rw [h] at hr; cases hr), fun j hj => ?_⟩
    by_cases hji : j = i
    · subst hji; exact hy.wpOp hi hS ⟨Or.inr hS, H⟩
    · have := ready_mono hj hji
      rw [H.1] at this
      cases this
  | succ f ih =>
    intro l a w hfree hr hy hS H
    refine ⟨fun h => (by rw [h] at hr; cases hr), fun j hj => ?_⟩
    by_cases hji : j = i
    · subst hji; exact hy.wpOp hi hS ⟨Or.inr hS, H⟩
    have hjN : j ∉ N := fun hn => lastWait_not hN hn hr hj
    obtain ⟨hjun, oj, hoj, hall⟩ := mem_ready.1 hj
    have hnot : ∀ e ∈ oj.after, Region.binds md e = true → e.on ≠ i := fun e he hb heq => by
      have h1 := hall e he hb
      have h0 := (mem_ready.1 hr).1
      rw [heq] at h1
      rcases Nat.lt_or_ge i l.size with h' | h'
      · simp [h'] at h0 h1; rw [h0] at h1; cases h1
      · simp [Array.getElem?_eq_none h'] at h1
    have h2 := wpOp_putIf hoj (hfree j oj hoj hji hjun hnot) (fun cs b => hsel i oi cs b hi) (fun cs b => hsel j oj cs b hoj) hQ hy (H.2 j (ready_mono hj hji))
    have hfree' : ∀ k ok, ops[k]? = some ok → k ≠ i → (l.setIfInBounds j true).getD k true = false →
        (∀ e ∈ ok.after, Region.binds md e = true → e.on ≠ i) → oi.apart ops ok = true := fun k ok hk hki hun hno => by
      refine hfree k ok hk hki ?_ hno
      by_cases hjk : j = k
      · subst hjk; exact hjun
      · rw [getD_set_ne true hjk] at hun; exact hun
    refine wpOp_mono (fun a' w' h3 => ?_) h2
    obtain ⟨hy', hS', H'⟩ := h3
    rcases hS' with hS' | hS'
    · exact absurd hS' hjN
    · refine ⟨Or.inr hS', ih (l.setIfInBounds j true) a' w' hfree' (ready_mono hr (Ne.symm hji)) hy' hS' ?_⟩
      rw [Array.setIfInBounds_comm _ _ hji]
      exact H'

theorem wpAnyJ_take {i : Nat} {oi : Oper} {v : Value} {f : Nat} {l : Array Bool} {a : Act} {w : World} (hi : ops[i]? = some oi)
    (hs : Region.noSelect ops = true) (hf : Region.free md ops l i = true) (hr : (Region.ready md ops l).contains i = true) (hN : lastWait md ops N i = true)
    (hQ : ∀ c a w, Q (.panic c) (a.put oi.dst v) w → Q (.panic c) a w) (hy : YieldsIf P ops S oi v a) (hS : S w)
    (h : wpAnyJ P md ops Q S N f (l.setIfInBounds i true) (a.put oi.dst v) w) : wpAnyJ P md ops Q S N (f + 1) l a w :=
  wpAnyJ_first hi (Region.noSelect_spec hs) hQ hN f l a w (Region.free_spec hi hf) (by simpa using hr) hy hS h

def AllReadyJ (P : Program) (md : Region.Mode) (ops : Array Oper) (Q : Exit → Act → World → Prop) (S : World → Prop) (N : List Nat) (f : Nat) (l : Array Bool) (a : Act) (w : World) (rs : List Nat) : Prop :=
  ∀ i ∈ rs, wpOp P ops Q i (fun a' w' => (i ∈ N ∨ S w') ∧ wpAnyJ P md ops Q S N f (l.setIfInBounds i true) a' w') a w
theorem AllReadyJ.nil {f : Nat} {l : Array Bool} {a : Act} {w : World} : AllReadyJ P md ops Q S N f l a w [] := fun _ h => by cases h
theorem AllReadyJ.cons {f : Nat} {l : Array Bool} {a : Act} {w : World} {i : Nat} {o : Oper} {rs : List Nat} (ho : ops[i]? = some o)
    (h : ∀ K' : Act → World → Prop, Shut (∀ a w, S w → (S w → wpAnyJ P md ops Q S N f (l.setIfInBounds i true) a w) → K' a w) → if Region.wanted o (yielded ops a.tmps) = true then Oper.wp P o a w K' Q else K' (a.put o.dst undef) w)
    (hs : AllReadyJ P md ops Q S N f l a w rs) : AllReadyJ P md ops Q S N f l a w (i :: rs) := fun j hj => by
  rcases List.mem_cons.1 hj with rfl | hj
  · exact wpOp_step ho (fun K' hK => h K' (fun a w hS hW => hK a w ⟨Or.inr hS, hW hS⟩))
  · exact hs j hj
/-- one of the last operations: nothing is asked behind it -/
theorem AllReadyJ.last {f : Nat} {l : Array Bool} {a : Act} {w : World} {i : Nat} {o : Oper} {rs : List Nat} (ho : ops[i]? = some o) (hN : N.contains i = true)
    (h : ∀ K' : Act → World → Prop, Shut (∀ a w, wpAnyJ P md ops Q S N f (l.setIfInBounds i true) a w → K' a w) → if Region.wanted o (yielded ops a.tmps) = true then Oper.wp P o a w K' Q else K' (a.put o.dst undef) w)
    (hs : AllReadyJ P md ops Q S N f l a w rs) : AllReadyJ P md ops Q S N f l a w (i :: rs) := fun j hj => by
  rcases List.mem_cons.1 hj with rfl | hj
  · exact wpOp_step ho (fun K' hK => h K' (fun a w hW => hK a w ⟨Or.inl (by simpa using hN), hW⟩))
  · exact hs j hj
theorem wpAnyJ_ready {rs : List Nat} {f : Nat} {l : Array Bool} {a : Act} {w : World} (hr : Region.ready md ops l = rs) (hne : rs ≠ [])
    (h : AllReadyJ P md ops Q S N f l a w rs) : wpAnyJ P md ops Q S N (f + 1) l a w :=
  ⟨fun h0 => absurd (hr ▸ h0) hne, fun i hi => h i (hr ▸ hi)⟩
theorem wpAnyJ_done {l : Array Bool} {a : Act} {w : World} (hr : Region.ready md ops l = []) (h : Q .normal a w) : ∀ f, wpAnyJ P md ops Q S N f l a w
  | 0 => ⟨hr, h⟩
  | _ + 1 => ⟨fun _ => h, by rw [hr]; simp⟩
theorem wp_region_J {id : Nat} {a : Act} {w : World} (N : List Nat) (S : World → Prop) (hm : P.follows .mixedOrders = true) (hS : S w.drew)
    (h : S w.drew → wpAnyJ P .any ops Q S N ops.size (Array.replicate ops.size false) a w.drew) : (Code.region id ops true).wp P Q a w :=
  wp_region_any hm (wpAny_of_J _ _ _ _ (h hS))
end
end Go.Proofs.YtilfcikhipadpaaGreatDoor
end

section
/- An operation's run hangs on its operands alone: for wide frames. -/
set_option linter.unusedVariables false
namespace Go.Proofs.YtilfcikhipadpaaGreatDoor

def lookV : List Nat → List Value → Nat → Value
  | k :: ks, v :: vs, t => if t = k then v else lookV ks vs t
  | _, _, _ => undef
def envL (ks : List Nat) (vs : List Value) : Operand → Value
  | .tmp t => lookV ks vs t
  | .const v => v
  | .global g => .pointer (some ⟨g, 0, none⟩)
  | .func f => .func (.func f) #[] #[]
def EnvOk (a : Act) : List Nat → List Value → Prop
  | [], [] => True
  | k :: ks, v :: vs => a.eval (.tmp k) = v ∧ EnvOk a ks vs
  | _, _ => False
def keyOk (ks : List Nat) : Operand → Bool
  | .tmp t => ks.contains t
  | _ => true
def noSel : Op → Bool
  | .select _ _ => false
  | _ => true
theorem lookV_env {a : Act} : ∀ {ks : List Nat} {vs : List Value}, EnvOk a ks vs → ∀ t, t ∈ ks → a.eval (.tmp t) = lookV ks vs t
  | [], _, _, t, h => by cases h
  | k :: ks, [], h, t, _ => absurd h id
  | k :: ks, v :: vs, h, t, ht => by
    unfold lookV
    by_cases e : t = k
    · rw [if_pos e, e]; exact h.1
    · rw [if_neg e]
      rcases List.mem_cons.1 ht with h1 | h1
      · exact absurd h1 e
      · exact lookV_env h.2 t h1
theorem run_env {P : Program} {a : Act} {o : Oper} {w : World} {r : Result Next} (ks : List Nat) (vs : List Value) (hs : noSel o.op = true) (hk : (o.op.operands.all (keyOk ks)) = true) (he : EnvOk a ks vs)
    (h : (execOp (envL ks vs) o).run P w = r) : (execOp a.eval o).run P w = r := by
  rw [← h, execOp_congr o (fun cs b e => by rw [e] at hs; cases hs) (ρ' := envL ks vs)]
  intro x hx
  have h1 := (Array.all_eq_true_iff_forall_mem.1 hk) x hx
  cases x with
  | tmp t => exact lookV_env he t (by simpa [keyOk] using h1)
  | const v => rfl
  | global g => rfl
  | func f => rfl
/-- any two operations of which neither waits for the other are apart -/
def apartAll (md : Region.Mode) (ops : Array Oper) : Bool :=
  (List.range ops.size).all fun i => (List.range ops.size).all fun j => i == j || (match ops[i]?, ops[j]? with
    | some oi, some oj => (oj.after.any fun e => Region.binds md e && e.on == i) || (oi.after.any fun e => Region.binds md e && e.on == j) || oi.apart ops oj
    | _, _ => true)
theorem okOps {md : Region.Mode} {ops : Array Oper} (h : (apartAll md ops && Region.noSelect ops) = true) : apartAll md ops = true ∧ Region.noSelect ops = true := by simpa using h
theorem wpAnyJ_takeG {P : Program} {ops : Array Oper} {Q : Exit → Act → World → Prop} {md : Region.Mode} {S : World → Prop} {N : List Nat} {i : Nat} {oi : Oper} {v : Value} {f : Nat} {l : Array Bool} {a : Act} {w : World}
    (hG : apartAll md ops = true) (hs : Region.noSelect ops = true) (hi : ops[i]? = some oi) (hl : l.getD i true = false) (hr : (oi.after.all fun e => !Region.binds md e || l.getD e.on false) = true) (hN : lastWait md ops N i = true)
    (hQ : ∀ c a w, Q (.panic c) (a.put oi.dst v) w → Q (.panic c) a w) (hy : YieldsIf P ops S oi v a) (hS : S w)
    (h : wpAnyJ P md ops Q S N f (l.setIfInBounds i true) (a.put oi.dst v) w) : wpAnyJ P md ops Q S N (f + 1) l a w := by
  have hre : ∀ e ∈ oi.after, Region.binds md e = true → l.getD e.on false = true := fun e he hb => by
    have h1 := (Array.all_eq_true_iff_forall_mem.1 hr) e he
    simpa [hb] using h1
  refine wpAnyJ_first hi (Region.noSelect_spec hs) hQ hN f l a w (fun j oj hj hji hjl hno => ?_) (mem_ready.2 ⟨hl, oi, hi, hre⟩) hy hS h
  have hlt : ∀ {k : Nat} {o : Oper}, ops[k]? = some o → k < ops.size := fun hk => (Array.getElem?_eq_some_iff.1 hk).1
  have h1 := List.all_eq_true.1 (List.all_eq_true.1 hG i (List.mem_range.2 (hlt hi))) j (List.mem_range.2 (hlt hj))
  rw [hi, hj] at h1
  simp only [Bool.or_eq_true, beq_iff_eq, Array.any_eq_true, Bool.and_eq_true] at h1
  rcases h1 with h1 | ((⟨k, hk, hb, he⟩ | ⟨k, hk, hb, he⟩) | h1)
  · exact absurd h1.symm hji
  · exact absurd he (hno _ (Array.getElem_mem hk) hb)
  · have h2 := hre _ (Array.getElem_mem hk) hb
    rw [he] at h2
    exfalso
    rcases Nat.lt_or_ge j l.size with h' | h'
    · simp [h'] at hjl h2; rw [hjl] at h2; cases h2
    · simp [Array.getElem?_eq_none h'] at h2
  · exact h1
end Go.Proofs.YtilfcikhipadpaaGreatDoor
end

section
/- A region in an open order whose last operations wait for an operation by way of others: wpAnyJ_takeB. -/
set_option linter.unusedVariables false
namespace Go.Proofs.YtilfcikhipadpaaGreatDoor
section
variable {P : Program} {ops : Array Oper} {Q : Exit → Act → World → Prop} {md : Region.Mode} {S : World → Prop} {N : List Nat}

/-- B: not done yet, and each of them, but i, waits for another one of them; the last operations are among them -/
def pathWait (md : Region.Mode) (ops : Array Oper) (l : Array Bool) (N B : List Nat) (i : Nat) : Bool :=
  N.all (fun n => n != i && B.contains n) && B.all fun b => l.getD b true == false && (b == i || (match ops[b]? with | some o => o.after.any fun e => B.contains e.on && Region.binds md e | none => false))

theorem wpAnyJ_firstB {i : Nat} {oi : Oper} {v : Value} (B : List Nat) (hi : ops[i]? = some oi) (hsel : ∀ (j : Nat) (o : Oper) cs b, ops[j]? = some o → o.op ≠ .select cs b)
    (hQ : ∀ c a w, Q (.panic c) (a.put oi.dst v) w → Q (.panic c) a w) (hN : ∀ n ∈ N, n ≠ i ∧ n ∈ B)
    (hB : ∀ b ∈ B, b ≠ i → ∃ ob, ops[b]? = some ob ∧ ∃ e ∈ ob.after, e.on ∈ B ∧ Region.binds md e = true) :
    ∀ (f : Nat) (l : Array Bool) (a : Act) (w : World), (∀ b ∈ B, l.getD b true = false) →
      (∀ j oj, ops[j]? = some oj → j ≠ i → l.getD j true = false → (∀ e ∈ oj.after, Region.binds md e = true → e.on ≠ i) → oi.apart ops oj = true) →
      i ∈ Region.ready md ops l → YieldsIf P ops S oi v a → S w →
      wpAnyJ P md ops Q S N f (l.setIfInBounds i true) (a.put oi.dst v) w → wpAnyJ P md ops Q S N (f + 1) l a w := by
  intro f
  induction f with
  | zero =>
    intro l a w _ _ hr hy hS H
    refine ⟨fun h => (by rw [h] at hr; cases hr), fun j hj => ?_⟩
    by_cases hji : j = i
    · subst hji; exact hy.wpOp hi hS ⟨Or.inr hS, H⟩
    · have := ready_mono hj hji
      rw [H.1] at this
      cases this
  | succ f ih =>
    intro l a w hU hfree hr hy hS H
    refine ⟨fun h => (by rw [h] at hr; cases hr), fun j hj => ?_⟩
    by_cases hji : j = i
    · subst hji; exact hy.wpOp hi hS ⟨Or.inr hS, H⟩
    obtain ⟨hjun, oj, hoj, hall⟩ := mem_ready.1 hj
    have hjB : j ∉ B := fun hb => by
      obtain ⟨ob, h1, e, h2, h3, h4⟩ := hB j hb hji
      rw [hoj] at h1
      cases h1
      have h5 := hall e h2 h4
      have h6 := hU _ h3
      rcases Nat.lt_or_ge e.on l.size with h' | h'
      · simp [h'] at h5 h6; rw [h6] at h5; cases h5
      · simp [Array.getElem?_eq_none h'] at h5 h6
    have hjN : j ∉ N := fun hn => hjB (hN j hn).2
    have hnot : ∀ e ∈ oj.after, Region.binds md e = true → e.on ≠ i := fun e he hb heq => by
      have h1 := hall e he hb
      have h0 := (mem_ready.1 hr).1
      rw [heq] at h1
      rcases Nat.lt_or_ge i l.size with h' | h'
      · simp [h'] at h0 h1; rw [h0] at h1; cases h1
      · simp [Array.getElem?_eq_none h'] at h1
    have h2 := wpOp_putIf hoj (hfree j oj hoj hji hjun hnot) (fun cs b => hsel i oi cs b hi) (fun cs b => hsel j oj cs b hoj) hQ hy (H.2 j (ready_mono hj hji))
    have hfree' : ∀ k ok, ops[k]? = some ok → k ≠ i → (l.setIfInBounds j true).getD k true = false →
        (∀ e ∈ ok.after, Region.binds md e = true → e.on ≠ i) → oi.apart ops ok = true := fun k ok hk hki hun hno => by
      refine hfree k ok hk hki ?_ hno
      by_cases hjk : j = k
      · subst hjk; exact hjun
      · rw [getD_set_ne true hjk] at hun; exact hun
    have hU' : ∀ b ∈ B, (l.setIfInBounds j true).getD b true = false := fun b hb => by
      have hne : j ≠ b := fun h => hjB (by rw [h]; exact hb)
      rw [getD_set_ne true hne]; exact hU b hb
    refine wpOp_mono (fun a' w' h3 => ?_) h2
    obtain ⟨hy', hS', H'⟩ := h3
    rcases hS' with hS' | hS'
    · exact absurd hS' hjN
    · refine ⟨Or.inr hS', ih (l.setIfInBounds j true) a' w' hU' hfree' (ready_mono hr (Ne.symm hji)) hy' hS' ?_⟩
      rw [Array.setIfInBounds_comm _ _ hji]
      exact H'
theorem wpAnyJ_takeB {i : Nat} {oi : Oper} {v : Value} {f : Nat} {l : Array Bool} {a : Act} {w : World} (B : List Nat) (hi : ops[i]? = some oi)
    (hs : Region.noSelect ops = true) (hf : Region.free md ops l i = true) (hr : (Region.ready md ops l).contains i = true) (hN : pathWait md ops l N B i = true)
    (hQ : ∀ c a w, Q (.panic c) (a.put oi.dst v) w → Q (.panic c) a w) (hy : YieldsIf P ops S oi v a) (hS : S w)
    (h : wpAnyJ P md ops Q S N f (l.setIfInBounds i true) (a.put oi.dst v) w) : wpAnyJ P md ops Q S N (f + 1) l a w := by
  unfold pathWait at hN
  simp only [Bool.and_eq_true, List.all_eq_true, bne_iff_ne, ne_eq, List.contains_iff_mem, beq_iff_eq, Bool.or_eq_true] at hN
  refine wpAnyJ_firstB B hi (Region.noSelect_spec hs) hQ hN.1 (fun b hb hne => ?_) f l a w (fun b hb => (hN.2 b hb).1) (Region.free_spec hi hf) (by simpa using hr) hy hS h
  have h1 := (hN.2 b hb).2
  rcases h1 with h1 | h1
  · exact absurd h1 hne
  · cases ho : ops[b]? with
    | none => rw [ho] at h1; cases h1
    | some o =>
      rw [ho] at h1
      simp only [Array.any_eq_true, Bool.and_eq_true, List.contains_iff_mem] at h1
      obtain ⟨k, hk, h2, h3⟩ := h1
      exact ⟨o, rfl, _, Array.getElem_mem hk, h2, h3⟩
end
end Go.Proofs.YtilfcikhipadpaaGreatDoor
end
