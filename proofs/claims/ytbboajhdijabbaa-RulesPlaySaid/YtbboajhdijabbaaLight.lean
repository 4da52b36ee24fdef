/- An operation's run hangs on its operands alone: for wide frames. -/
import Derived.Test.YtbboajhdijabbaaJ
set_option linter.unusedVariables false
namespace Go.Proofs.Ytbboajhdijabbaa

def lookV : List Nat → List Value → Nat → Value
  | k :: ks, v :: vs, t => if t = k then v else lookV ks vs t
  | _, _, _ => undef
def envL (ks : List Nat) (vs : List Value) : Operand → Value
  | .tmp t => lookV ks vs t
  | .const v => v
  | .global g => .pointer (some ⟨g, 0, none⟩)
  | .func f => .func (.func f) #[] #[]
def EnvOk (a : Act) : List Nat → List Value → Prop
  | [], [] => True
  | k :: ks, v :: vs => a.eval (.tmp k) = v ∧ EnvOk a ks vs
  | _, _ => False
def keyOk (ks : List Nat) : Operand → Bool
  | .tmp t => ks.contains t
  | _ => true
def noSel : Op → Bool
  | .select _ _ => false
  | _ => true
theorem lookV_env {a : Act} : ∀ {ks : List Nat} {vs : List Value}, EnvOk a ks vs → ∀ t, t ∈ ks → a.eval (.tmp t) = lookV ks vs t
  | [], _, _, t, h => by cases h
  | k :: ks, [], h, t, _ => absurd h id
  | k :: ks, v :: vs, h, t, ht => by
    unfold lookV
    by_cases e : t = k
    · rw [if_pos e, e]; exact h.1
    · rw [if_neg e]
      rcases List.mem_cons.1 ht with h1 | h1
      · exact absurd h1 e
      · exact lookV_env h.2 t h1
theorem run_env {P : Program} {a : Act} {o : Oper} {w : World} {r : Result Next} (ks : List Nat) (vs : List Value) (hs : noSel o.op = true) (hk : (o.op.operands.all (keyOk ks)) = true) (he : EnvOk a ks vs)
    (h : (execOp (envL ks vs) o).run P w = r) : (execOp a.eval o).run P w = r := by
  rw [← h, execOp_congr o (fun cs b e => by rw [e] at hs; cases hs) (ρ' := envL ks vs)]
  intro x hx
  have h1 := (Array.all_eq_true_iff_forall_mem.1 hk) x hx
  cases x with
  | tmp t => exact lookV_env he t (by simpa [keyOk] using h1)
  | const v => rfl
  | global g => rfl
  | func f => rfl
/-- any two operations of which neither waits for the other are apart -/
def apartAll (md : Region.Mode) (ops : Array Oper) : Bool :=
  (List.range ops.size).all fun i => (List.range ops.size).all fun j => i == j || (match ops[i]?, ops[j]? with
    | some oi, some oj => (oj.after.any fun e => Region.binds md e && e.on == i) || (oi.after.any fun e => Region.binds md e && e.on == j) || oi.apart ops oj
    | _, _ => true)
theorem okOps {md : Region.Mode} {ops : Array Oper} (h : (apartAll md ops && Region.noSelect ops) = true) : apartAll md ops = true ∧ Region.noSelect ops = true := by simpa using h
theorem wpAnyJ_takeG {P : Program} {ops : Array Oper} {Q : Exit → Act → World → Prop} {md : Region.Mode} {S : World → Prop} {N : List Nat} {i : Nat} {oi : Oper} {v : Value} {f : Nat} {l : Array Bool} {a : Act} {w : World}
    (hG : apartAll md ops = true) (hs : Region.noSelect ops = true) (hi : ops[i]? = some oi) (hl : l.getD i true = false) (hr : (oi.after.all fun e => !Region.binds md e || l.getD e.on false) = true) (hN : lastWait md ops N i = true)
    (hQ : ∀ c a w, Q (.panic c) (a.put oi.dst v) w → Q (.panic c) a w) (hy : YieldsIf P ops S oi v a) (hS : S w)
    (h : wpAnyJ P md ops Q S N f (l.setIfInBounds i true) (a.put oi.dst v) w) : wpAnyJ P md ops Q S N (f + 1) l a w := by
  have hre : ∀ e ∈ oi.after, Region.binds md e = true → l.getD e.on false = true := fun e he hb => by
    have h1 := (Array.all_eq_true_iff_forall_mem.1 hr) e he
    simpa [hb] using h1
  refine wpAnyJ_first hi (Region.noSelect_spec hs) hQ hN f l a w (fun j oj hj hji hjl hno => ?_) (mem_ready.2 ⟨hl, oi, hi, hre⟩) hy hS h
  have hlt : ∀ {k : Nat} {o : Oper}, ops[k]? = some o → k < ops.size := fun hk => (Array.getElem?_eq_some_iff.1 hk).1
  have h1 := List.all_eq_true.1 (List.all_eq_true.1 hG i (List.mem_range.2 (hlt hi))) j (List.mem_range.2 (hlt hj))
  rw [hi, hj] at h1
  simp only [Bool.or_eq_true, beq_iff_eq, Array.any_eq_true, Bool.and_eq_true] at h1
  rcases h1 with h1 | ((⟨k, hk, hb, he⟩ | ⟨k, hk, hb, he⟩) | h1)
  · exact absurd h1.symm hji
  · exact absurd he (hno _ (Array.getElem_mem hk) hb)
  · have h2 := hre _ (Array.getElem_mem hk) hb
    rw [he] at h2
    exfalso
    rcases Nat.lt_or_ge j l.size with h' | h'
    · simp [h'] at hjl h2; rw [hjl] at h2; cases h2
    · simp [Array.getElem?_eq_none h'] at h2
  · exact h1
end Go.Proofs.Ytbboajhdijabbaa
