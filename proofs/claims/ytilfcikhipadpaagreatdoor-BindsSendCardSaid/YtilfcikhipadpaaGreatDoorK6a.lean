/- Several texts of this claim, one behind the other. -/
import Derived.Test.YtilfcikhipadpaaGreatDoorK5a
import Derived.Orders
import Derived.RegionTactic

section
/- A run reckoned by the kernel: one operation in its place, and those that come in their order. No program. -/
set_option linter.unusedVariables false
set_option linter.unusedSimpArgs false
namespace Go.Proofs.YtilfcikhipadpaaGreatDoor
open Go.RowKit Go.Lib
namespace Rx
variable {P : Program} {A : Amb}

/-- the frame holds what the reckoning says, at the slots of T -/
def FrOK (D : Nat → Prop) (ρ : Nm) (T : Nat → Prop) (e : Env) (a : Act) : Prop := ∀ t u, T t → e t = some u → a.tmps[t]? = some (ren ρ u) ∧ Fit D u
theorem eval_tmp {a : Act} {t : Nat} {v : Value} (h : a.tmps[t]? = some v) : a.eval (.tmp t) = v := by simp [Act.eval, h]
/-- an evaluation that looks at T alone -/
def Looks (T : Nat → Prop) (e : Env) (ev : Operand → Option Value) : Prop := ∀ x u, ev x = some u → evalA e x = some u ∧ ∀ t, x = .tmp t → T t
theorem Looks.all (e : Env) : Looks (fun _ => True) e (evalA e) := fun x u h => ⟨h, fun _ _ => trivial⟩
theorem Looks.restr (o : Oper) (e : Env) : Looks (fun t => Operand.tmp t ∈ o.op.operands.toList) e (restr o e) := fun x u h => by
  cases x with
  | tmp t =>
    simp only [Rx.restr] at h
    cases hb : o.op.operands.toList.any (isTmp t) <;> simp only [hb, cond] at h
    · cases h
    · refine ⟨h, fun s hs => ?_⟩
      cases hs
      obtain ⟨y, hy, hy2⟩ := List.any_eq_true.1 hb
      unfold isTmp at hy2
      split at hy2
      · rw [← Nat.eq_of_beq_eq_true hy2]; exact hy
      · cases hy2
  | _ => exact ⟨h, fun _ h => by cases h⟩
theorem Looks.ev {D : Nat → Prop} {ρ : Nm} {T : Nat → Prop} {e : Env} {ev : Operand → Option Value} {a : Act} (hl : Looks T e ev) (h : FrOK D ρ T e a) : EvOK D ρ ev a := fun x u hx => by
  obtain ⟨h1, h2⟩ := hl x u hx
  cases x with
  | tmp t =>
    obtain ⟨h3, h4⟩ := h t u (h2 t rfl) h1
    exact ⟨eval_tmp h3, h4⟩
  | const v =>
    simp only [evalA] at h1
    cases hr : real v <;> simp only [hr, cond] at h1
    · cases h1
    · simp only [Option.some.injEq] at h1; subst h1
      exact ⟨(ren_real hr).symm, Fit.real hr⟩
  | global g =>
    simp only [evalA, Option.some.injEq] at h1; subst h1
    exact ⟨rfl, Fit.real rfl⟩
  | func f =>
    simp only [evalA, Option.some.injEq] at h1; subst h1
    exact ⟨rfl, Fit.real rfl⟩

theorem wanted_S {ops : Array Oper} {env : Env} {o : Oper} {ts ts' : Ts} {b : Bool} (h : wantedA ops env o ts = some (b, ts')) :
    Sound P A ts ts' (∀ (D : Nat → Prop) (ρ : Nm) (T : Nat → Prop) (a : Act), FrOK D ρ T env a → (∀ d, o.guard.isSome = true → d ∈ (match o.guard with | some (g, _) => ((ops[g]?).bind (·.dst)).toList | none => []) → T d) → Region.wanted o (yielded ops a.tmps) = b) := by
  unfold wantedA at h
  split at h
  · rename_i hg
    simp only [Option.some.injEq, Prod.mk.injEq] at h
    obtain ⟨rfl, rfl⟩ := h
    exact Sound.refl fun D ρ T a _ _ => by simp [Region.wanted, hg]
  · rename_i j want hg
    split at h
    · cases h
    · rename_i d hd
      split at h
      · rename_i b' hb
        split at h
        rename_i t ts1 hgr
        simp only [Option.some.injEq, Prod.mk.injEq] at h
        obtain ⟨rfl, rfl⟩ := h
        refine (Sound.grd (P := P) (A := A) hgr).mono fun hbt D ρ T a hf hT => ?_
        subst hbt
        have h1 := (hf d _ (hT d (by simp [hg]) (by simp [hg, hd])) hb).1
        have h2 : yielded ops a.tmps j = some b' := by
          unfold yielded
          rw [hd]
          simp only [Option.bind_some]
          rw [h1]
          rfl
        simp only [Region.wanted, hg, h2]
        cases want <;> cases b' <;> rfl
      · rename_i vs hb
        simp only [Option.some.injEq, Prod.mk.injEq] at h
        obtain ⟨rfl, rfl⟩ := h
        refine Sound.refl fun D ρ T a hf hT => ?_
        have h1 := (hf d _ (hT d (by simp [hg]) (by simp [hg, hd])) hb).1
        have h2 : yielded ops a.tmps j = none := by
          unfold yielded
          rw [hd]
          simp only [Option.bind_some]
          rw [h1]
          rfl
        simp only [Region.wanted, hg, h2]
        rfl
      · cases h

def putE (e : Env) (d : Option Tmp) (v : Value) : Env := match d with | some d => e.put d v | none => e
/-- what an operation leaves: the slot, the log -/
structure OpRes (o : Oper) (view : Mem) (st : St) (v : Value) (l : Log) (st' : St) : Prop where
  nx : st.nx ≤ st'.nx
  n : st'.n = st.n
  log : LogOK view st.nx st'.nx l
  mem : st'.mem = st.mem.add l
  logs : st'.log = l ++ st.log
  env : st'.env = putE st.env o.dst v
  lt : ∀ d, o.dst = some d → d < st.n
theorem put_spec {st st' : St} {d : Option Tmp} {v : Value} (h : st.put d v = some st') : st' = { st with env := putE st.env d v } ∧ ∀ t, d = some t → t < st.n := by
  unfold St.put at h
  split at h
  · simp only [Option.some.injEq] at h; subst h
    exact ⟨rfl, fun _ h => by cases h⟩
  · rename_i t
    cases hb : Nat.blt t st.n <;> simp only [hb, cond] at h
    · cases h
    · simp only [Option.some.injEq] at h; subst h
      refine ⟨rfl, fun s hs => ?_⟩
      cases hs
      simpa [Nat.blt_eq] using hb
theorem runOp_S {call : CallF} (hc : CallS P A call) {ops : Array Oper} {o : Oper} {ev : Operand → Option Value} {view : Mem} {st st' : St} {l : Log} (h : runOp P call ops o ev view st = some (l, st')) {T : Nat → Prop} (hl : Looks T st.env ev)
    (hT : ∀ d, d ∈ (match o.guard with | some (g, _) => ((ops[g]?).bind (·.dst)).toList | none => []) → T d) :
    ∃ v, OpRes o view st v l st' ∧ Sound P A st.ts st'.ts (∀ (i : Nat) (D : Nat → Prop) (ρ : Nm) (a : Act) (w : World) (K : Act → World → Prop) (Q : Exit → Act → World → Prop), ops[i]? = some o →
      FrOK D ρ T st.env a → MemOK P A D ρ view w → (∀ i, D i → ¬ (st.nx ≤ i ∧ i < st'.nx)) → (∀ ρ' w', Aft P A D ρ view st.nx w v l st'.nx ρ' w' → K (a.put o.dst (ren ρ' v)) w') → wpOp P ops Q i K a w) := by
  unfold runOp at h
  split at h
  · rename_i ts hw
    split at h
    · rename_i v l' nx ts' hs
      split at h
      · rename_i st1 hp
        simp only [Option.some.injEq, Prod.mk.injEq] at h
        obtain ⟨rfl, rfl⟩ := h
        obtain ⟨rfl, hlt⟩ := put_spec hp
        obtain ⟨h1, h2, h3⟩ := opStep_S hc hs
        refine ⟨v, ⟨h1, rfl, h2, rfl, rfl, rfl, hlt⟩, ?_⟩
        refine Sound.bind (wanted_S hw) (Sound.like (ts' := ts') (h3.mono fun k hwant i D ρ a w K Q hi hf hm hd hk => ?_) ⟨rfl, rfl⟩ ⟨rfl, rfl⟩)
        unfold wpOp
        rw [hi]
        show if Region.wanted o (yielded ops a.tmps) = true then _ else _
        rw [if_pos (hwant D ρ T a hf fun d _ hd => hT d hd)]
        exact Or.inl (k D ρ a w K Q (hl.ev hf) hm hd hk)
      · cases h
    · cases h
  · rename_i ts hw
    split at h
    · rename_i st1 hp
      simp only [Option.some.injEq, Prod.mk.injEq] at h
      obtain ⟨rfl, rfl⟩ := h
      obtain ⟨rfl, hlt⟩ := put_spec hp
      refine ⟨undef, ⟨Nat.le_refl _, rfl, fun e he => (by cases he), rfl, rfl, rfl, hlt⟩, ?_⟩
      refine Sound.like (ts' := ts) ((wanted_S (P := P) (A := A) hw).mono fun hwant i D ρ a w K Q hi hf hm hd hk => ?_) ⟨rfl, rfl⟩ ⟨rfl, rfl⟩
      unfold wpOp
      rw [hi]
      show if Region.wanted o (yielded ops a.tmps) = true then _ else _
      rw [if_neg (by rw [hwant D ρ T a hf fun d _ hd => hT d hd]; exact Bool.false_ne_true)]
      exact hk ρ w (Aft.refl hm (Fit.real rfl))
    · cases h
  · cases h

/-! ### states -/
structure StOK (P : Program) (A : Amb) (D : Nat → Prop) (ρ : Nm) (st : St) (a : Act) (w : World) : Prop where
  fr : FrOK D ρ (fun _ => True) st.env a
  size : a.tmps.size = st.n
  defers : a.defers = []
  mem : MemOK P A D ρ st.mem w
/-- what is behind a state, as far as the reckoning goes -/
structure Ext (st st' : St) : Prop where
  nx : st.nx ≤ st'.nx
  n : st'.n = st.n
  mem : ∃ l, st'.mem = st.mem.add l ∧ LogOK st.mem st.nx st'.nx l ∧ st'.log = l ++ st.log
structure StAft (P : Program) (A : Amb) (D : Nat → Prop) (ρ : Nm) (st : St) (w : World) (st' : St) (ρ' : Nm) (a' : Act) (w' : World) : Prop where
  same : ∀ i, ¬ (st.nx ≤ i ∧ i < st'.nx) → ρ' i = ρ i
  ok : StOK P A (ext D st.nx st'.nx) ρ' st' a' w'
  kept : Kept (owns ρ st.mem) w w'
  new : ∀ i b, st.nx ≤ i → i < st'.nx → st'.mem i = some b → w.heap.size ≤ (ρ' i).1 ∨ owns ρ st.mem (ρ' i).1
theorem StOK.mono {D E : Nat → Prop} {ρ : Nm} {st : St} {a : Act} {w : World} (h : StOK P A D ρ st a w) (he : ∀ i, D i → E i) : StOK P A E ρ st a w :=
  ⟨fun t u ht hu => ⟨(h.fr t u ht hu).1, (h.fr t u ht hu).2.mono he⟩, h.size, h.defers, h.mem.mono he⟩
theorem Ext.refl (st : St) : Ext st st := ⟨Nat.le_refl _, rfl, [], rfl, fun _ h => (by cases h), rfl⟩
theorem LogOK.more {m m' : Mem} {a b c d : Nat} {l : Log} (h : LogOK m a b l) (hm : ∀ i, (m i).isSome = true → (m' i).isSome = true ∨ (c ≤ i ∧ i < d)) (h1 : c ≤ a) (h2 : b ≤ d) : LogOK m' c d l := fun e he => by
  rcases h e he with h | h
  · exact hm _ h
  · exact Or.inr ⟨by omega, by omega⟩
theorem add_isSome {m : Mem} {a b : Nat} {l : Log} (h : LogOK m a b l) (i : Nat) (k : (m.add l i).isSome = true) : (m i).isSome = true ∨ (a ≤ i ∧ i < b) := by
  obtain ⟨c, hc⟩ := Option.isSome_iff_exists.1 k
  exact add_dom h hc
theorem Ext.trans {a b c : St} (h : Ext a b) (k : Ext b c) : Ext a c := by
  obtain ⟨h1, h2, l, h3, h4, h5⟩ := h
  obtain ⟨k1, k2, l', k3, k4, k5⟩ := k
  refine ⟨Nat.le_trans h1 k1, k2.trans h2, l' ++ l, by rw [k3, h3, add_append], fun e he => ?_, by rw [k5, h5, List.append_assoc]⟩
  rcases List.mem_append.1 he with he | he
  · refine (k4.more (m' := a.mem) (c := a.nx) (d := c.nx) (fun i hi => ?_) h1 (Nat.le_refl _)) e he
    rw [h3] at hi
    rcases add_isSome h4 i hi with h | h
    · exact Or.inl h
    · exact Or.inr ⟨h.1, Nat.lt_of_lt_of_le h.2 k1⟩
  · exact (h4.more (fun i hi => Or.inl hi) (Nat.le_refl _) k1) e he
theorem StAft.refl {D : Nat → Prop} {ρ : Nm} {st : St} {a : Act} {w : World} (h : StOK P A D ρ st a w) : StAft P A D ρ st w st ρ a w :=
  ⟨fun _ _ => rfl, h.mono fun _ => Or.inl, Kept.refl _ _, fun _ _ h1 h2 => by omega⟩
theorem ext_disj {D : Nat → Prop} {a b c : Nat} (h : ∀ i, D i → ¬ (a ≤ i ∧ i < c)) (h1 : a ≤ b) : ∀ i, ext D a b i → ¬ (b ≤ i ∧ i < c) := fun i hi k => by
  rcases hi with hi | hi
  · exact h i hi ⟨by omega, k.2⟩
  · omega
theorem StAft.trans {D : Nat → Prop} {ρ ρ1 ρ2 : Nm} {s0 s1 s2 : St} {a1 a2 : Act} {w w1 w2 : World} (e1 : Ext s0 s1) (e2 : Ext s1 s2) (hm : MemOK P A D ρ s0.mem w) (hD : ∀ i, D i → ¬ (s0.nx ≤ i ∧ i < s2.nx))
    (h : StAft P A D ρ s0 w s1 ρ1 a1 w1) (k : StAft P A (ext D s0.nx s1.nx) ρ1 s1 w1 s2 ρ2 a2 w2) : StAft P A D ρ s0 w s2 ρ2 a2 w2 := by
  have n1 := e1.nx; have n2 := e2.nx
  have hin : ∀ {i : Nat} {b : Blk}, s0.mem i = some b → ¬ (s0.nx ≤ i ∧ i < s2.nx) := fun e => hD _ (hm.dom e).1
  obtain ⟨l1, m1, o1, _⟩ := e1.mem
  obtain ⟨l2, m2, o2, _⟩ := e2.mem
  refine ⟨fun i hi => (k.same i (by omega)).trans (h.same i (by omega)), k.ok.mono fun i hi => ?_, Kept.trans h.kept k.kept (fun _ _ h => h) (fun b hb hk => ?_), fun i b h1 h2 hi => ?_⟩
  · rcases hi with (hi | hi) | hi
    · exact Or.inl hi
    · exact Or.inr ⟨hi.1, by omega⟩
    · exact Or.inr ⟨by omega, hi.2⟩
  · obtain ⟨i, c, hi, rfl⟩ := hk
    rw [m1] at hi
    rcases add_dom o1 hi with h0 | h0
    · obtain ⟨c', hc'⟩ := Option.isSome_iff_exists.1 h0
      have := hin hc'
      exact ⟨i, c', hc', by rw [h.same i (by omega)]⟩
    · rcases h.new i c h0.1 h0.2 (by rw [m1]; exact hi) with h9 | h9
      · omega
      · exact h9
  · by_cases hlt : i < s1.nx
    · have hi2 := hi
      rw [m2] at hi2
      rcases add_dom o2 hi2 with h0 | h0
      · obtain ⟨c', hc'⟩ := Option.isSome_iff_exists.1 h0
        have := h.new i c' h1 hlt hc'
        rwa [k.same i (by omega)]
      · omega
    · rcases k.new i b (by omega) h2 hi with h9 | ⟨j, c', hj, hje⟩
      · have := h.kept.size
        exact Or.inl (by omega)
      · rw [hje]
        have hj2 := hj
        rw [m1] at hj2
        rcases add_dom o1 hj2 with h0 | h0
        · obtain ⟨c2, hc2⟩ := Option.isSome_iff_exists.1 h0
          have := hin hc2
          exact Or.inr ⟨j, c2, hc2, by rw [h.same j (by omega)]⟩
        · exact h.new j c' h0.1 h0.2 hj

/-- one operation, in the order of the text -/
theorem OpRes.ext {o : Oper} {st st' : St} {v : Value} {l : Log} (h : OpRes o st.mem st v l st') : Ext st st' := ⟨h.nx, h.n, l, h.mem, h.log, h.logs⟩
theorem put_size (a : Act) (d : Option Tmp) (v : Value) : (a.put d v).tmps.size = a.tmps.size := by cases d <;> simp [Act.put]
theorem put_defers_ (a : Act) (d : Option Tmp) (v : Value) : (a.put d v).defers = a.defers := by cases d <;> rfl
theorem put_get {a : Act} {d t : Nat} {v : Value} (h : d < a.tmps.size) : (a.put (some d) v).tmps[t]? = if t = d then some v else a.tmps[t]? := by
  simp only [Act.put]
  by_cases e : t = d
  · subst e; simp [h]
  · rw [if_neg e, Array.getElem?_setIfInBounds_ne (fun h => e h.symm)]
theorem OpRes.aft {D : Nat → Prop} {ρ ρ' : Nm} {o : Oper} {st st' : St} {v : Value} {l : Log} {a : Act} {w w' : World} (h : OpRes o st.mem st v l st') (hs : StOK P A D ρ st a w) (hD : ∀ i, D i → ¬ (st.nx ≤ i ∧ i < st'.nx)) (k : Aft P A D ρ st.mem st.nx w v l st'.nx ρ' w') :
    StAft P A D ρ st w st' ρ' (a.put o.dst (ren ρ' v)) w' := by
  have old : ∀ {u : Value}, Fit D u → ren ρ' u = ren ρ u := fun hu => hu ρ' ρ fun i hi => k.same i (hD i hi)
  refine ⟨k.same, ⟨fun t u _ hu => ?_, by rw [put_size, hs.size, h.n], by rw [put_defers_]; exact hs.defers, by rw [h.mem]; exact k.mem⟩, k.kept, fun i b h1 h2 hi => k.new i b h1 h2 (by rw [← h.mem]; exact hi)⟩
  rw [h.env] at hu
  cases hd : o.dst with
  | none =>
    rw [hd] at hu
    obtain ⟨h1, h2⟩ := hs.fr t u trivial hu
    exact ⟨by rw [old h2]; exact h1, h2.mono fun _ => Or.inl⟩
  | some d =>
    rw [hd] at hu
    have hlt : d < a.tmps.size := by rw [hs.size]; exact h.lt d hd
    rw [put_get hlt]
    simp only [putE, Env.put] at hu
    cases hb : Nat.beq t d <;> simp only [hb, cond] at hu
    · rw [if_neg (Nat.ne_of_beq_eq_false hb)]
      obtain ⟨h1, h2⟩ := hs.fr t u trivial hu
      exact ⟨by rw [old h2]; exact h1, h2.mono fun _ => Or.inl⟩
    · rw [if_pos (Nat.eq_of_beq_eq_true hb)]
      simp only [Option.some.injEq] at hu
      subst hu
      exact ⟨rfl, k.fit⟩

/-- c is run from st and comes to st' -/
def StepS (P : Program) (A : Amb) (c : (Act → World → Prop) → Act → World → Prop) (st st' : St) : Prop :=
  Ext st st' ∧ Sound P A st.ts st'.ts (∀ (D : Nat → Prop) (ρ : Nm) (a : Act) (w : World) (K : Act → World → Prop), StOK P A D ρ st a w → (∀ i, D i → ¬ (st.nx ≤ i ∧ i < st'.nx)) →
    (∀ ρ' a' w', StAft P A D ρ st w st' ρ' a' w' → K a' w') → c K a w)
theorem StepS.bind {c d e : (Act → World → Prop) → Act → World → Prop} {s0 s1 s2 : St} (h : StepS P A c s0 s1) (k : StepS P A d s1 s2) (hcd : ∀ K a w, c (d K) a w → e K a w) : StepS P A e s0 s2 := by
  obtain ⟨h1, h2⟩ := h
  obtain ⟨k1, k2⟩ := k
  refine ⟨h1.trans k1, h2.bind (k2.mono fun k' h' D ρ a w K hs hD hk => hcd K a w (h' D ρ a w (d K) hs (fun i hi => fun ⟨x, y⟩ => hD i hi ⟨x, by have := k1.nx; omega⟩) fun ρ1 a1 w1 h3 => ?_))⟩
  exact k' _ ρ1 a1 w1 K h3.ok (ext_disj hD h1.nx) fun ρ2 a2 w2 h4 => hk ρ2 a2 w2 (StAft.trans h1 k1 hs.mem hD h3 h4)
theorem runSeq_S {call : CallF} (hc : CallS P A call) {ops : Array Oper} {Q : Exit → Act → World → Prop} : ∀ (os : List Oper) (i : Nat) (st st' : St), ops.toList.drop i = os → runSeq P call ops os st = some st' →
    StepS P A (fun K a w => ∀ Q : Exit → Act → World → Prop, (∀ a w, K a w → Q .normal a w) → wpOps P ops Q (List.range' i os.length) a w) st st'
  | [], i, st, st', _, h => by
    simp only [runSeq, Option.some.injEq] at h
    subst h
    exact ⟨Ext.refl _, Sound.refl fun D ρ a w K hs hD hk Q hq => hq a w (hk ρ a w (StAft.refl hs))⟩
  | o :: os, i, st, st', hd, h => by
    simp only [runSeq] at h
    split at h
    · rename_i l st1 h1
      have hi : ops[i]? = some o := by
        have : (ops.toList.drop i)[0]? = some o := by rw [hd]; rfl
        simpa using this
      have hd' : ops.toList.drop (i + 1) = os := by
        rw [← List.drop_drop, hd]; rfl
      obtain ⟨v, hr, hs⟩ := runOp_S hc h1 (Looks.all st.env) (fun _ _ => trivial)
      have k := runSeq_S hc (Q := Q) os (i + 1) st1 st' hd' h
      refine StepS.bind (c := fun K a w => ∀ Q : Exit → Act → World → Prop, wpOp P ops Q i K a w) (s1 := st1) ⟨hr.ext, hs.mono fun hs D ρ a w K ho hD hk Q => ?_⟩ k (fun K a w h Q hq => ?_)
      · exact hs i D ρ a w K Q hi ho.fr ho.mem hD fun ρ' w' ha => hk ρ' _ w' (hr.aft ho hD ha)
      · show wpOps P ops Q (i :: List.range' (i + 1) os.length) a w
        rw [wpOps_cons]
        exact wpOp_mono (fun a w h => h Q hq) (h Q)
    · cases h
end Rx
end Go.Proofs.YtilfcikhipadpaaGreatDoor
end

section
/- A run reckoned by the kernel: regions that draw their order. No program. -/
set_option linter.unusedVariables false
set_option linter.unusedSimpArgs false
namespace Go.Proofs.YtilfcikhipadpaaGreatDoor
open Go.RowKit Go.Lib
namespace Rx
variable {P : Program} {A : Amb}

theorem beside_mem {b : Nat} : ∀ (l : List Seg) (j : Nat) (x : Seg), x ∈ beside b j l ↔ ∃ k, l[k]? = some x ∧ Nat.testBit b (j + k) = false
  | [], j, x => by simp [beside]
  | y :: l, j, x => by
    simp only [beside]
    cases hb : Nat.testBit b j <;> simp only [cond]
    · rw [List.mem_cons, beside_mem l (j + 1) x]
      constructor
      · rintro (rfl | ⟨k, h1, h2⟩)
        · exact ⟨0, rfl, hb⟩
        · exact ⟨k + 1, by simpa using h1, by rw [← h2]; congr 1; omega⟩
      · rintro ⟨k, h1, h2⟩
        cases k with
        | zero => left; simpa using h1.symm
        | succ k => right; exact ⟨k, by simpa using h1, by rw [← h2]; congr 1; omega⟩
    · rw [beside_mem l (j + 1) x]
      constructor
      · rintro ⟨k, h1, h2⟩
        exact ⟨k + 1, by simpa using h1, by rw [← h2]; congr 1; omega⟩
      · rintro ⟨k, h1, h2⟩
        cases k with
        | zero => simp only [Nat.add_zero] at h2; rw [hb] at h2; cases h2
        | succ k => exact ⟨k, by simpa using h1, by rw [← h2]; congr 1; omega⟩
theorem mask_spec {bs : List Nat} {j : Nat} : ∀ {es : List Edge}, Nat.testBit (maskOf bs es) j = true → ∃ e ∈ es, Region.binds .any e = true ∧ (e.on = j ∨ Nat.testBit (bs.getD e.on 0) j = true)
  | [], h => by simp [maskOf] at h
  | e :: es, h => by
    simp only [maskOf] at h
    cases hb : Region.binds .any e <;> simp only [hb, cond] at h
    · obtain ⟨x, h1, h2⟩ := mask_spec h
      exact ⟨x, by simp [h1], h2⟩
    · rw [Nat.testBit_or, Nat.testBit_or, Bool.or_eq_true, Bool.or_eq_true] at h
      rcases h with (h | h) | h
      · exact ⟨e, by simp, hb, Or.inl (by rw [Nat.testBit_two_pow] at h; simpa using h)⟩
      · exact ⟨e, by simp, hb, Or.inr h⟩
      · obtain ⟨x, h1, h2⟩ := mask_spec h
        exact ⟨x, by simp [h1], h2⟩
theorem early_spec {i : Nat} : ∀ {es : List Edge}, early i es = true → ∀ e ∈ es, Region.binds .any e = true → e.on < i
  | [], _, e, h, _ => by cases h
  | x :: es, h, e, he, hb => by
    simp only [early] at h
    rcases List.mem_cons.1 he with rfl | he
    · rw [hb] at h
      simp only [cond, Bool.and_eq_true] at h
      simpa [Nat.blt_eq] using h.1
    · cases hx : Region.binds .any x <;> simp only [hx, cond] at h
      · exact early_spec h e he hb
      · simp only [Bool.and_eq_true] at h
        exact early_spec h.2 e he hb

/-- what a reckoning of such a region consists of -/
structure Dat (P : Program) (call : CallF) (ops : Array Oper) (lo n : Nat) (O : Nat → Oper) (s : Nat → St) (L : Nat → Log) (B : Nat → Nat) (G : Nat → Seg) : Prop where
  o : ∀ i, lo ≤ i → i < n → ops.toList[i]? = some (O i)
  b : ∀ i, lo ≤ i → i < n → B i = maskOf ((List.range i).map B) (O i).after.toList
  g : ∀ i, lo ≤ i → i < n → G i = ⟨O i, (L i).map (·.1), ((L i).map (·.1)).filter (fun x => !(Nat.ble (s i).nx x && Nat.blt x (s (i + 1)).nx)), readsOf (s i).env (O i).op⟩
  e : ∀ i, lo ≤ i → i < n → early i (O i).after.toList = true
  a : ∀ i, lo ≤ i → i < n → (beside (B i) 0 ((List.range i).map G)).all (fun x => x.o.apart ops (O i)) = true
  r : ∀ i, lo ≤ i → i < n → runOp P call ops (O i) (restr (O i) (s i).env) (seesOf (beside (B i) 0 ((List.range i).map G)) (G i).r (s i).mem) (s i) = some (L i, s (i + 1))
  c : ∀ i, lo ≤ i → i < n → clear (beside (B i) 0 ((List.range i).map G)) (G i).w = true
theorem range_map_succ {α : Type} {f : Nat → α} {l : List α} {x : α} {i : Nat} (hl : l.length = i) (h : l ++ [x] = (List.range (i + 1)).map f) : l = (List.range i).map f ∧ f i = x := by
  rw [List.range_succ, List.map_append] at h
  obtain ⟨h1, h2⟩ := List.append_inj h (by simp [hl])
  exact ⟨h1, by simpa using h2.symm⟩
theorem dat_of {call : CallF} {ops : Array Oper} : ∀ (os : List Oper) (bs : List Nat) (segs : List Seg) (st st' : St), bs.length = segs.length → ops.toList.drop segs.length = os → runDraw P call ops os bs segs st = some st' →
    ∃ O s L B G, Dat P call ops segs.length ops.size O s L B G ∧ s segs.length = st ∧ s ops.size = st' ∧ bs = (List.range segs.length).map B ∧ segs = (List.range segs.length).map G
  | [], bs, segs, st, st', hb, hd, h => by
    simp only [runDraw, Option.some.injEq] at h
    subst h
    have hn : ops.size ≤ segs.length := by
      have := congrArg List.length hd
      simp at this; omega
    refine ⟨fun _ => default, fun _ => st, fun _ => [], fun i => bs.getD i 0, fun i => segs.getD i ⟨default, [], [], none⟩, ⟨?_, ?_, ?_, ?_, ?_, ?_, ?_⟩, rfl, rfl, ?_, ?_⟩
    iterate 7 (intro i h1 h2; omega)
    · apply List.ext_getElem <;> simp [hb]
      intro i h1; rw [List.getElem?_eq_getElem (by omega)]; rfl
    · apply List.ext_getElem <;> simp
      intro i h1; rw [List.getElem?_eq_getElem (by omega)]; rfl
  | o :: os, bs, segs, st, st', hb, hd, h => by
    simp only [runDraw] at h
    cases hc1 : (early segs.length o.after.toList && (beside (maskOf bs o.after.toList) 0 segs).all fun s => s.o.apart ops o) <;> simp only [hc1, cond] at h
    · cases h
    · split at h
      · rename_i l st1 hr
        cases hc2 : clear (beside (maskOf bs o.after.toList) 0 segs) ((l.map (·.1)).filter fun x => !(Nat.ble st.nx x && Nat.blt x st1.nx)) <;> simp only [hc2, cond] at h
        · cases h
        · have ho : ops.toList[segs.length]? = some o := by
            have : (ops.toList.drop segs.length)[0]? = some o := by rw [hd]; rfl
            simpa using this
          have hlt : segs.length < ops.size := by
            have := (List.getElem?_eq_some_iff.1 ho).1
            simpa using this
          obtain ⟨O, s, L, B, G, hD, h1, h2, h3, h4⟩ := dat_of os (bs ++ [maskOf bs o.after.toList]) (segs ++ [⟨o, l.map (·.1), (l.map (·.1)).filter fun x => !(Nat.ble st.nx x && Nat.blt x st1.nx), readsOf st.env o.op⟩]) st1 st' (by simp [hb]) (by
            rw [List.length_append, List.length_singleton, ← List.drop_drop, hd]; rfl) h
          have hlen : (segs ++ [(⟨o, l.map (·.1), (l.map (·.1)).filter fun x => !(Nat.ble st.nx x && Nat.blt x st1.nx), readsOf st.env o.op⟩ : Seg)]).length = segs.length + 1 := by simp
          rw [hlen] at h1 h3 h4 hD
          obtain ⟨h5, h6⟩ := range_map_succ hb h3
          obtain ⟨h7, h8⟩ := range_map_succ rfl h4
          simp only [Bool.and_eq_true] at hc1
          refine ⟨fun i => if i = segs.length then o else O i, fun i => if i = segs.length then st else s i, fun i => if i = segs.length then l else L i, B, G, ⟨?_, ?_, ?_, ?_, ?_, ?_, ?_⟩, by simp, by simp [show ops.size ≠ segs.length by omega, h2], h5, h7⟩
          all_goals
            intro i hi1 hi2
            by_cases hi : i = segs.length
            · subst hi
              simp only [if_true, Nat.succ_ne_self, if_false, ← h5, ← h7, h6, h8, h1]
              try first | exact ho | exact hc1.1 | exact hc1.2 | exact hr | exact hc2
            · have hi3 : segs.length + 1 ≤ i := by omega
              have hi4 : ¬ i + 1 = segs.length := by omega
              (try simp only [hi, hi4, if_false])
              first | exact hD.o i hi3 hi2 | exact hD.b i hi3 hi2 | exact hD.g i hi3 hi2 | exact hD.e i hi3 hi2 | exact hD.a i hi3 hi2 | exact hD.r i hi3 hi2 | exact hD.c i hi3 hi2
      · cases h
end Rx
end Go.Proofs.YtilfcikhipadpaaGreatDoor
end

section
/- A run reckoned by the kernel: a region that draws its order comes to the same in every order. No program. -/
set_option linter.unusedVariables false
set_option linter.unusedSimpArgs false
namespace Go.Proofs.YtilfcikhipadpaaGreatDoor
open Go.RowKit Go.Lib
namespace Rx
variable {P : Program} {A : Amb}

def lis (l : Array Bool) (k : Nat) : Prop := l.getD k false = true
instance (l : Array Bool) (k : Nat) : Decidable (lis l k) := inferInstanceAs (Decidable (l.getD k false = true))
def inK (L : Nat → Log) (k id : Nat) : Prop := ∃ e ∈ L k, e.1 = id
/-- the frame when the operations of l have come up -/
def stE (e0 : Env) (d : Nat → Option Tmp) (V : Nat → Value) (l : Array Bool) : Nat → Env
  | 0 => e0
  | k + 1 => if lis l k then putE (stE e0 d V l k) (d k) (V k) else stE e0 d V l k
def stM (m0 : Mem) (L : Nat → Log) (l : Array Bool) : Nat → Mem
  | 0 => m0
  | k + 1 => if lis l k then (stM m0 L l k).add (L k) else stM m0 L l k
theorem putE_get (e : Env) (d : Option Tmp) (v : Value) (t : Nat) : putE e d v t = if d = some t then some v else e t := by
  cases d with
  | none => rfl
  | some d =>
    simp only [putE, Env.put, Option.some.injEq]
    by_cases h : t = d
    · subst h; simp
    · rw [if_neg (fun e => h e.symm)]
      cases hb : Nat.beq t d
      · rfl
      · exact absurd (Nat.eq_of_beq_eq_true hb) h
theorem stE_eq {e0 : Env} {d : Nat → Option Tmp} {V : Nat → Value} {l l' : Array Bool} {t : Nat} : ∀ (n : Nat), (∀ k, k < n → d k = some t → (lis l k ↔ lis l' k)) → stE e0 d V l n t = stE e0 d V l' n t
  | 0, _ => rfl
  | n + 1, h => by
    have ih := stE_eq (e0 := e0) (V := V) n fun k hk => h k (by omega)
    simp only [stE]
    by_cases hd : d n = some t
    · have := h n (by omega) hd
      by_cases hl : lis l n
      · rw [if_pos hl, if_pos (this.1 hl), putE_get, putE_get, if_pos hd, if_pos hd]
      · rw [if_neg hl, if_neg (fun h => hl (this.2 h)), ih]
    · have e1 : (if lis l n then putE (stE e0 d V l n) (d n) (V n) else stE e0 d V l n) t = stE e0 d V l n t := by
        split
        · rw [putE_get, if_neg hd]
        · rfl
      have e2 : (if lis l' n then putE (stE e0 d V l' n) (d n) (V n) else stE e0 d V l' n) t = stE e0 d V l' n t := by
        split
        · rw [putE_get, if_neg hd]
        · rfl
      rw [e1, e2, ih]
theorem stM_eq {m0 : Mem} {L : Nat → Log} {l l' : Array Bool} {id : Nat} : ∀ (n : Nat), (∀ k, k < n → inK L k id → (lis l k ↔ lis l' k)) → stM m0 L l n id = stM m0 L l' n id
  | 0, _ => rfl
  | n + 1, h => by
    have ih := stM_eq (m0 := m0) n fun k hk => h k (by omega)
    simp only [stM]
    by_cases hd : inK L n id
    · have := h n (by omega) hd
      by_cases hl : lis l n
      · rw [if_pos hl, if_pos (this.1 hl)]; exact add_in hd
      · rw [if_neg hl, if_neg (fun h => hl (this.2 h)), ih]
    · have e1 : (if lis l n then (stM m0 L l n).add (L n) else stM m0 L l n) id = stM m0 L l n id := by
        split
        · exact add_out hd
        · rfl
      have e2 : (if lis l' n then (stM m0 L l' n).add (L n) else stM m0 L l' n) id = stM m0 L l' n id := by
        split
        · exact add_out hd
        · rfl
      rw [e1, e2, ih]
/-- one more has come up, that nothing behind it writes over -/
theorem stE_put {e0 : Env} {d : Nat → Option Tmp} {V : Nat → Value} {l : Array Bool} {t i : Nat} (hi : i < l.size) : ∀ (n : Nat), i < n → (∀ k, i < k → k < n → lis l k → d k = some t → d i ≠ some t) →
    stE e0 d V (l.setIfInBounds i true) n t = if d i = some t then some (V i) else stE e0 d V l n t
  | 0, h, _ => by omega
  | n + 1, hn, h => by
    have hs : ∀ k, lis (l.setIfInBounds i true) k ↔ k = i ∨ lis l k := fun k => by
      unfold lis
      by_cases e : k = i
      · subst e; simp [hi]
      · simp [Array.getD_eq_getD_getElem?, Array.getElem?_setIfInBounds_ne (fun h => e h.symm), e]
    by_cases hin : i = n
    · subst hin
      simp only [stE]
      rw [if_pos ((hs i).2 (Or.inl rfl)), putE_get]
      by_cases hd : d i = some t
      · rw [if_pos hd, if_pos hd]
      · rw [if_neg hd, if_neg hd]
        have : stE e0 d V (l.setIfInBounds i true) i t = stE e0 d V l i t := stE_eq i fun k hk _ => by rw [hs]; exact ⟨fun h => h.resolve_left (by omega), Or.inr⟩
        rw [this]
        split
        · rw [putE_get, if_neg hd]
        · rfl
    · have ih := stE_put (e0 := e0) (V := V) hi n (by omega) fun k h1 h2 => h k h1 (by omega)
      simp only [stE]
      by_cases hl : lis l n
      · rw [if_pos ((hs n).2 (Or.inr hl)), if_pos hl, putE_get, putE_get, ih]
        by_cases hd : d n = some t
        · rw [if_pos hd, if_pos hd, if_neg (h n (by omega) (by omega) hl hd)]
        · rw [if_neg hd, if_neg hd]
      · rw [if_neg (fun e => hl (((hs n).1 e).resolve_left (fun e => hin e.symm))), if_neg hl, ih]
theorem stM_put {m0 : Mem} {L : Nat → Log} {l : Array Bool} {id i : Nat} (hi : i < l.size) : ∀ (n : Nat), i < n → (∀ k, i < k → k < n → lis l k → inK L k id → ¬ inK L i id) →
    stM m0 L (l.setIfInBounds i true) n id = (stM m0 L l n).add (L i) id
  | 0, h, _ => by omega
  | n + 1, hn, h => by
    have hs : ∀ k, lis (l.setIfInBounds i true) k ↔ k = i ∨ lis l k := fun k => by
      unfold lis
      by_cases e : k = i
      · subst e; simp [hi]
      · simp [Array.getD_eq_getD_getElem?, Array.getElem?_setIfInBounds_ne (fun h => e h.symm), e]
    by_cases hin : i = n
    · subst hin
      simp only [stM]
      rw [if_pos ((hs i).2 (Or.inl rfl))]
      by_cases hd : inK L i id
      · exact add_in hd
      · rw [add_out hd, add_out hd]
        have : stM m0 L (l.setIfInBounds i true) i id = stM m0 L l i id := stM_eq i fun k hk _ => by rw [hs]; exact ⟨fun h => h.resolve_left (by omega), Or.inr⟩
        rw [this]
        split
        · rw [add_out hd]
        · rfl
    · have ih := stM_put (m0 := m0) hi n (by omega) fun k h1 h2 => h k h1 (by omega)
      simp only [stM]
      by_cases hl : lis l n
      · rw [if_pos ((hs n).2 (Or.inr hl)), if_pos hl]
        by_cases hd : inK L n id
        · have hni := h n (by omega) (by omega) hl hd
          rw [add_out hni]
          exact add_in hd
        · rw [add_out hd, ih]
          by_cases hd2 : inK L i id
          · exact add_in hd2
          · rw [add_out hd2, add_out hd2, add_out hd]
      · rw [if_neg (fun e => hl (((hs n).1 e).resolve_left (fun e => hin e.symm))), if_neg hl, ih]
end Rx
end Go.Proofs.YtilfcikhipadpaaGreatDoor
end

section
/- A run reckoned by the kernel: the theorem on regions that draw their order. No program. -/
set_option linter.unusedVariables false
set_option linter.unusedSimpArgs false
namespace Go.Proofs.YtilfcikhipadpaaGreatDoor
open Go.RowKit Go.Lib
namespace Rx
variable {P : Program} {A : Amb}

def viewOf (s : Nat → St) (B : Nat → Nat) (G : Nat → Seg) (i : Nat) : Mem := seesOf (beside (B i) 0 ((List.range i).map G)) (G i).r (s i).mem
def OpC (P : Program) (A : Amb) (ops : Array Oper) (o : Oper) (view : Mem) (st st' : St) (v : Value) (l : Log) : Prop := ∀ (i : Nat) (D : Nat → Prop) (ρ : Nm) (a : Act) (w : World) (K : Act → World → Prop) (Q : Exit → Act → World → Prop), ops[i]? = some o →
      FrOK D ρ (fun t => t ∈ o.looksAt ops) st.env a → MemOK P A D ρ view w → (∀ i, D i → ¬ (st.nx ≤ i ∧ i < st'.nx)) → (∀ ρ' w', Aft P A D ρ view st.nx w v l st'.nx ρ' w' → K (a.put o.dst (ren ρ' v)) w') → wpOp P ops Q i K a w
/-- what is known of such a region's reckoning -/
structure Rk (P : Program) (A : Amb) (call : CallF) (ops : Array Oper) (O : Nat → Oper) (s : Nat → St) (L : Nat → Log) (B : Nat → Nat) (G : Nat → Seg) (V : Nat → Value) : Prop where
  d : Dat P call ops 0 ops.size O s L B G
  r : ∀ i, i < ops.size → OpRes (O i) (viewOf s B G i) (s i) (V i) (L i) (s (i + 1))
theorem seesOf_sub {bes : List Seg} {r : Option (List Nat)} {m : Mem} {id : Nat} {b : Blk} (h : seesOf bes r m id = some b) : m id = some b ∧ (∀ x ∈ bes, ¬ id ∈ x.k) ∧ ∀ l, r = some l → id ∈ l := by
  have has : ∀ (l : List Nat), has1 l id = true ↔ id ∈ l := fun l => by
    unfold has1
    rw [List.any_eq_true]
    constructor
    · rintro ⟨x, hx, he⟩
      rw [← Nat.eq_of_beq_eq_true he]; exact hx
    · intro h; exact ⟨id, h, by simp⟩
  unfold seesOf at h
  cases h1 : bes.any fun s => has1 s.k id <;> simp only [h1, cond] at h
  · have hk : ∀ x ∈ bes, ¬ id ∈ x.k := fun x hx hid => by
      have := List.any_eq_false.1 h1 x hx
      rw [(has x.k).2 hid] at this
      exact this rfl
    split at h
    · rename_i l
      cases h2 : has1 l id <;> simp only [h2, cond] at h
      · cases h
      · exact ⟨h, hk, fun l' e => by cases e; exact (has l).1 h2⟩
    · exact ⟨h, hk, fun l e => by cases e⟩
  · cases h
theorem clear_spec {bes : List Seg} {w : List Nat} (h : clear bes w = true) {x : Seg} (hx : x ∈ bes) {id : Nat} (hid : id ∈ w) : ∃ l, x.r = some l ∧ ¬ id ∈ l := by
  unfold clear at h
  rw [Bool.or_eq_true] at h
  rcases h with h | h
  · rw [List.isEmpty_iff] at h; subst h; cases hid
  · have := List.all_eq_true.1 h x hx
    split at this
    · rename_i l hl
      refine ⟨l, hl, fun hm => ?_⟩
      simp only [Bool.not_eq_true'] at this
      unfold meets at this
      have h2 := List.any_eq_false.1 this id hm
      apply h2
      unfold has1
      exact List.any_eq_true.2 ⟨id, hid, by simp⟩
    · cases this
section
variable {call : CallF} {ops : Array Oper} {O : Nat → Oper} {s : Nat → St} {L : Nat → Log} {B : Nat → Nat} {G : Nat → Seg} {V : Nat → Value}
theorem Rk.oi (h : Rk P A call ops O s L B G V) {i : Nat} (hi : i < ops.size) : ops[i]? = some (O i) := by
  have := h.d.o i (Nat.zero_le _) hi
  rwa [Array.getElem?_toList] at this
theorem Rk.step (h : Rk P A call ops O s L B G V) {i : Nat} (hi : i < ops.size) : Ext (s i) (s (i + 1)) := by
  have k := h.r i hi
  exact ⟨k.nx, k.n, L i, k.mem, k.log.more (fun j hj => by
    obtain ⟨b, hb⟩ := Option.isSome_iff_exists.1 hj
    exact Or.inl (by rw [(seesOf_sub hb).1]; rfl)) (Nat.le_refl _) (Nat.le_refl _), k.logs⟩
theorem Rk.ext (h : Rk P A call ops O s L B G V) : ∀ {i j : Nat}, i ≤ j → j ≤ ops.size → Ext (s i) (s j)
  | i, 0, h1, _ => by rw [Nat.le_zero.1 h1]; exact Ext.refl _
  | i, j + 1, h1, h2 => by
    by_cases e : i = j + 1
    · rw [e]; exact Ext.refl _
    · exact (h.ext (by omega) (by omega)).trans (h.step (by omega))
theorem Rk.nx (h : Rk P A call ops O s L B G V) {i j : Nat} (h1 : i ≤ j) (h2 : j ≤ ops.size) : (s i).nx ≤ (s j).nx := (h.ext h1 h2).nx
theorem Rk.dom (h : Rk P A call ops O s L B G V) {i id : Nat} {b : Blk} (hi : i ≤ ops.size) (hb : (s i).mem id = some b) : ((s 0).mem id).isSome = true ∨ ((s 0).nx ≤ id ∧ id < (s i).nx) := by
  obtain ⟨l, h1, h2, _⟩ := (h.ext (Nat.zero_le i) hi).mem
  rw [h1] at hb
  exact add_dom h2 hb
theorem lis_all {n k : Nat} : lis (Array.replicate n true) k ↔ k < n := by
  unfold lis
  by_cases h : k < n <;> simp [Array.getD_eq_getD_getElem?, h]
theorem Rk.env (h : Rk P A call ops O s L B G V) : ∀ i, i ≤ ops.size → (s i).env = stE (s 0).env (fun k => (O k).dst) V (Array.replicate ops.size true) i
  | 0, _ => rfl
  | i + 1, hi => by
    simp only [stE]
    rw [if_pos (lis_all.2 (by omega)), ← h.env i (by omega)]
    exact (h.r i (by omega)).env
theorem Rk.mem (h : Rk P A call ops O s L B G V) : ∀ i, i ≤ ops.size → (s i).mem = stM (s 0).mem L (Array.replicate ops.size true) i
  | 0, _ => rfl
  | i + 1, hi => by
    simp only [stM]
    rw [if_pos (lis_all.2 (by omega)), ← h.mem i (by omega)]
    exact (h.r i (by omega)).mem
/-- j and i may come in either order -/
theorem Rk.bes (h : Rk P A call ops O s L B G V) {i j : Nat} (hj : j < i) (hb : Nat.testBit (B i) j = false) : G j ∈ beside (B i) 0 ((List.range i).map G) := by
  rw [beside_mem]
  exact ⟨j, by simp [hj], by simpa using hb⟩
theorem Rk.apart (h : Rk P A call ops O s L B G V) {i j : Nat} (hj : j < i) (hi : i < ops.size) (hb : Nat.testBit (B i) j = false) : (O j).apart ops (O i) = true := by
  have h1 := List.all_eq_true.1 (h.d.a i (Nat.zero_le _) hi) _ (h.bes hj hb)
  rw [h.d.g j (Nat.zero_le _) (by omega)] at h1
  exact h1
theorem Rk.keys (h : Rk P A call ops O s L B G V) {j id : Nat} (hj : j < ops.size) (hid : inK L j id) : id ∈ (G j).k := by
  rw [h.d.g j (Nat.zero_le _) hj]
  obtain ⟨e, he, rfl⟩ := hid
  exact List.mem_map.2 ⟨e, he, rfl⟩
/-- all that an operation that has come up waited for has come up -/
def Closed (ops : Array Oper) (O : Nat → Oper) (l : Array Bool) : Prop := ∀ k, k < ops.size → lis l k → ∀ e ∈ (O k).after, Region.binds .any e = true → lis l e.on
theorem Rk.up (h : Rk P A call ops O s L B G V) {l : Array Bool} (hc : Closed ops O l) : ∀ (k : Nat), k < ops.size → (∀ e ∈ (O k).after, Region.binds .any e = true → lis l e.on) → ∀ j, Nat.testBit (B k) j = true → lis l j := by
  intro k
  induction k using Nat.strongRecOn with
  | _ k ih =>
    intro hk ha j hj
    rw [h.d.b k (Nat.zero_le _) hk] at hj
    obtain ⟨e, he, hb, hon⟩ := mask_spec hj
    have he' : e ∈ (O k).after := by simpa using he
    have hlt := early_spec (h.d.e k (Nat.zero_le _) hk) e he hb
    rcases hon with rfl | hon
    · exact ha e he' hb
    · have : ((List.range k).map B).getD e.on 0 = B e.on := by simp [List.getD_eq_getElem?_getD, hlt]
      rw [this] at hon
      exact ih e.on hlt (by omega) (hc e.on (by omega) (ha e he' hb)) j hon
/-- i is ready: what it waits for is there, what waits for it is not -/
structure At (ops : Array Oper) (O : Nat → Oper) (B : Nat → Nat) (l : Array Bool) (i : Nat) : Prop where
  lt : i < ops.size
  no : ¬ lis l i
  sz : l.size = ops.size
  before : ∀ j, j < i → Nat.testBit (B i) j = true → lis l j
  behind : ∀ j, i < j → j < ops.size → Nat.testBit (B j) i = true → ¬ lis l j
theorem Rk.at_ (h : Rk P A call ops O s L B G V) {l : Array Bool} (hc : Closed ops O l) (hsz : l.size = ops.size) {i : Nat} (hi : i < ops.size) (hno : ¬ lis l i) (ha : ∀ e ∈ (O i).after, Region.binds .any e = true → lis l e.on) : At ops O B l i :=
  ⟨hi, hno, hsz, fun j hj hb => h.up hc i hi ha j hb, fun j hj hjn hb hl => hno (h.up hc j hjn (hc j hjn hl) i hb)⟩
theorem Rk.slot (h : Rk P A call ops O s L B G V) {l : Array Bool} {i : Nat} (ha : At ops O B l i) {t : Nat} (ht : t ∈ (O i).looksAt ops) : (s i).env t = stE (s 0).env (fun k => (O k).dst) V l ops.size t := by
  have h1 : ∀ n, i ≤ n → n ≤ ops.size → stE (s 0).env (fun k => (O k).dst) V (Array.replicate i true) n t = stE (s 0).env (fun k => (O k).dst) V l n t := fun n h1 h2 => stE_eq n fun k hk hd => by
    rw [lis_all]
    rcases Nat.lt_trichotomy k i with hki | rfl | hki
    · refine ⟨fun _ => ?_, fun _ => hki⟩
      cases hb : Nat.testBit (B i) k
      · exact absurd ht ((Oper.apart_spec (h.apart hki ha.lt hb)).1 t hd)
      · exact ha.before k hki hb
    · exact ⟨fun h => absurd h (by omega), fun h => absurd h ha.no⟩
    · refine ⟨fun h => absurd h (by omega), fun hl => ?_⟩
      cases hb : Nat.testBit (B k) i
      · exact absurd ht ((Oper.apart_spec (h.apart hki (by omega) hb)).2.2 t hd)
      · exact absurd hl (ha.behind k hki (by omega) hb)
  rw [← h1 ops.size (Nat.le_of_lt ha.lt) (Nat.le_refl _), h.env i (Nat.le_of_lt ha.lt)]
  have h2 : ∀ m, stE (s 0).env (fun k => (O k).dst) V (Array.replicate i true) (i + m) t = stE (s 0).env (fun k => (O k).dst) V (Array.replicate i true) i t := fun m => by
    induction m with
    | zero => rfl
    | succ m ih =>
      show stE _ _ _ _ ((i + m) + 1) t = _
      simp only [stE]
      rw [if_neg (by rw [lis_all]; omega), ih]
  rw [show ops.size = i + (ops.size - i) by have := ha.lt; omega, h2]
  refine stE_eq i fun k hk _ => ?_
  rw [lis_all, lis_all]
  have := ha.lt
  omega
theorem Rk.cell (h : Rk P A call ops O s L B G V) (hD : ∀ id, ((s 0).mem id).isSome = true → ¬ ((s 0).nx ≤ id ∧ id < (s ops.size).nx)) {l : Array Bool} {i : Nat} (ha : At ops O B l i) {id : Nat} {b : Blk} (hv : viewOf s B G i id = some b) : stM (s 0).mem L l ops.size id = some b := by
  obtain ⟨v1, v2, v3⟩ := seesOf_sub hv
  have hdom := h.dom (Nat.le_of_lt ha.lt) v1
  have hout : ∀ k, i < k → k < ops.size → ¬ ((s k).nx ≤ id ∧ id < (s (k + 1)).nx) := fun k h1 h2 hr => by
    have n1 := h.nx (i := 0) (j := k) (Nat.zero_le _) (by omega)
    have n2 := h.nx (i := k + 1) (j := ops.size) (by omega) (Nat.le_refl _)
    have n3 := h.nx (i := i) (j := k) (by omega) (by omega)
    rcases hdom with hd | hd
    · exact hD id hd ⟨by omega, by omega⟩
    · omega
  have h1 : ∀ n, i ≤ n → n ≤ ops.size → stM (s 0).mem L (Array.replicate i true) n id = stM (s 0).mem L l n id := fun n h1 h2 => stM_eq n fun k hk hd => by
    rw [lis_all]
    rcases Nat.lt_trichotomy k i with hki | rfl | hki
    · refine ⟨fun _ => ?_, fun _ => hki⟩
      cases hb : Nat.testBit (B i) k
      · exact absurd (h.keys (by have := ha.lt; omega) hd) (v2 _ (h.bes hki hb))
      · exact ha.before k hki hb
    · exact ⟨fun h => absurd h (by omega), fun h => absurd h ha.no⟩
    · refine ⟨fun h => absurd h (by omega), fun hl => ?_⟩
      cases hb : Nat.testBit (B k) i
      · exfalso
        have hkn : k < ops.size := by omega
        have hw : id ∈ (G k).w := by
          rw [h.d.g k (Nat.zero_le _) hkn]
          refine List.mem_filter.2 ⟨by obtain ⟨e, he, rfl⟩ := hd; exact List.mem_map.2 ⟨e, he, rfl⟩, ?_⟩
          have := hout k hki hkn
          cases e1 : Nat.ble (s k).nx id <;> cases e2 : Nat.blt id (s (k + 1)).nx <;> simp
          exact this ⟨Nat.le_of_ble_eq_true e1, by simpa [Nat.blt_eq] using e2⟩
        obtain ⟨ls, hls, hnot⟩ := clear_spec (h.d.c k (Nat.zero_le _) hkn) (h.bes hki hb) hw
        exact hnot (v3 ls hls)
      · exact absurd hl (ha.behind k hki (by omega) hb)
  rw [← h1 ops.size (Nat.le_of_lt ha.lt) (Nat.le_refl _)]
  have h2 : ∀ m, stM (s 0).mem L (Array.replicate i true) (i + m) id = stM (s 0).mem L (Array.replicate i true) i id := fun m => by
    induction m with
    | zero => rfl
    | succ m ih =>
      show stM _ _ _ ((i + m) + 1) id = _
      simp only [stM]
      rw [if_neg (by rw [lis_all]; omega), ih]
  rw [show ops.size = i + (ops.size - i) by have := ha.lt; omega, h2]
  have h3 : stM (s 0).mem L (Array.replicate i true) i id = stM (s 0).mem L (Array.replicate ops.size true) i id := stM_eq i fun k hk _ => by
    rw [lis_all, lis_all]
    have := ha.lt
    omega
  rw [h3, ← h.mem i (Nat.le_of_lt ha.lt)]
  exact v1
/-- nothing that may come later, and has come up, has the same slot, or writes the same block -/
theorem Rk.slot2 (h : Rk P A call ops O s L B G V) {l : Array Bool} {i : Nat} (ha : At ops O B l i) {t k : Nat} (hk : i < k) (hkn : k < ops.size) (hl : lis l k) (hd : (O k).dst = some t) : (O i).dst ≠ some t := fun hi => by
  cases hb : Nat.testBit (B k) i
  · exact (Oper.apart_spec (h.apart hk hkn hb)).2.1 t hi hd
  · exact ha.behind k hk hkn hb hl
theorem Rk.cell2 (h : Rk P A call ops O s L B G V) (hD : ∀ id, ((s 0).mem id).isSome = true → ¬ ((s 0).nx ≤ id ∧ id < (s ops.size).nx)) {l : Array Bool} {i : Nat} (ha : At ops O B l i) {id k : Nat} (hk : i < k) (hkn : k < ops.size) (hl : lis l k) (hd : inK L k id) : ¬ inK L i id := fun hi => by
  cases hb : Nat.testBit (B k) i
  · have h1 := h.keys ha.lt hi
    obtain ⟨e, he, rfl⟩ := hd
    rcases (h.r k hkn).log e he with hv | hv
    · obtain ⟨b, hb'⟩ := Option.isSome_iff_exists.1 hv
      exact (seesOf_sub hb').2.1 _ (h.bes hk hb) h1
    · obtain ⟨f, hf, hfe⟩ := hi
      have n1 := h.nx (i := i + 1) (j := k) hk (by omega)
      have n0 := h.nx (i := 0) (j := k) (by omega) (by omega)
      have n2 := h.nx (i := k + 1) (j := ops.size) (by omega) (Nat.le_refl _)
      rcases (h.r i ha.lt).log f hf with hv2 | hv2
      · obtain ⟨b, hb'⟩ := Option.isSome_iff_exists.1 hv2
        have n3 := h.nx (i := i) (j := i + 1) (by omega) (by have := ha.lt; omega)
        rcases h.dom (Nat.le_of_lt ha.lt) (seesOf_sub hb').1 with hd2 | hd2
        · rw [hfe] at hd2
          exact hD _ hd2 ⟨by omega, by omega⟩
        · omega
      · omega
  · exact ha.behind k hk hkn hb hl
end
end Rx
end Go.Proofs.YtilfcikhipadpaaGreatDoor
end
