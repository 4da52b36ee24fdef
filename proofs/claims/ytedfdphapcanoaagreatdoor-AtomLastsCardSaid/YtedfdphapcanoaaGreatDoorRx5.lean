/- A run reckoned by the kernel: one operation in its place, and those that come in their order. No program. -/
import Derived.Test.YtedfdphapcanoaaGreatDoorRx4
set_option linter.unusedVariables false
set_option linter.unusedSimpArgs false
namespace Go.Proofs.YtedfdphapcanoaaGreatDoor
open Go.RowKit Go.Lib
namespace Rx
variable {P : Program} {A : Amb}

/-- the frame holds what the reckoning says, at the slots of T -/
def FrOK (D : Nat → Prop) (ρ : Nm) (T : Nat → Prop) (e : Env) (a : Act) : Prop := ∀ t u, T t → e t = some u → a.tmps[t]? = some (ren ρ u) ∧ Fit D u
theorem eval_tmp {a : Act} {t : Nat} {v : Value} (h : a.tmps[t]? = some v) : a.eval (.tmp t) = v := by simp [Act.eval, h]
/-- an evaluation that looks at T alone -/
def Looks (T : Nat → Prop) (e : Env) (ev : Operand → Option Value) : Prop := ∀ x u, ev x = some u → evalA e x = some u ∧ ∀ t, x = .tmp t → T t
theorem Looks.all (e : Env) : Looks (fun _ => True) e (evalA e) := fun x u h => ⟨h, fun _ _ => trivial⟩
theorem Looks.restr (o : Oper) (e : Env) : Looks (fun t => Operand.tmp t ∈ o.op.operands.toList) e (restr o e) := fun x u h => by
  cases x with
  | tmp t =>
    simp only [Rx.restr] at h
    cases hb : o.op.operands.toList.any (isTmp t) <;> simp only [hb, cond] at h
    · cases h
    · refine ⟨h, fun s hs => ?_⟩
      cases hs
      obtain ⟨y, hy, hy2⟩ := List.any_eq_true.1 hb
      unfold isTmp at hy2
      split at hy2
      · rw [← Nat.eq_of_beq_eq_true hy2]; exact hy
      · cases hy2
  | _ => exact ⟨h, fun _ h => by cases h⟩
theorem Looks.ev {D : Nat → Prop} {ρ : Nm} {T : Nat → Prop} {e : Env} {ev : Operand → Option Value} {a : Act} (hl : Looks T e ev) (h : FrOK D ρ T e a) : EvOK D ρ ev a := fun x u hx => by
  obtain ⟨h1, h2⟩ := hl x u hx
  cases x with
  | tmp t =>
    obtain ⟨h3, h4⟩ := h t u (h2 t rfl) h1
    exact ⟨eval_tmp h3, h4⟩
  | const v =>
    simp only [evalA] at h1
    cases hr : real v <;> simp only [hr, cond] at h1
    · cases h1
    · simp only [Option.some.injEq] at h1; subst h1
      exact ⟨(ren_real hr).symm, Fit.real hr⟩
  | global g =>
    simp only [evalA, Option.some.injEq] at h1; subst h1
    exact ⟨rfl, Fit.real rfl⟩
  | func f =>
    simp only [evalA, Option.some.injEq] at h1; subst h1
    exact ⟨rfl, Fit.real rfl⟩

theorem wanted_S {ops : Array Oper} {env : Env} {o : Oper} {ts ts' : Ts} {b : Bool} (h : wantedA ops env o ts = some (b, ts')) :
    Sound P A ts ts' (∀ (D : Nat → Prop) (ρ : Nm) (T : Nat → Prop) (a : Act), FrOK D ρ T env a → (∀ d, o.guard.isSome = true → d ∈ (match o.guard with | some (g, _) => ((ops[g]?).bind (·.dst)).toList | none => []) → T d) → Region.wanted o (yielded ops a.tmps) = b) := by
  unfold wantedA at h
  split at h
  · rename_i hg
    simp only [Option.some.injEq, Prod.mk.injEq] at h
    obtain ⟨rfl, rfl⟩ := h
    exact Sound.refl fun D ρ T a _ _ => by simp [Region.wanted, hg]
  · rename_i j want hg
    split at h
    · cases h
    · rename_i d hd
      split at h
      · rename_i b' hb
        split at h
        rename_i t ts1 hgr
        simp only [Option.some.injEq, Prod.mk.injEq] at h
        obtain ⟨rfl, rfl⟩ := h
        refine (Sound.grd (P := P) (A := A) hgr).mono fun hbt D ρ T a hf hT => ?_
        subst hbt
        have h1 := (hf d _ (hT d (by simp [hg]) (by simp [hg, hd])) hb).1
        have h2 : yielded ops a.tmps j = some b' := by
          unfold yielded
          rw [hd]
          simp only [Option.bind_some]
          rw [h1]
          rfl
        simp only [Region.wanted, hg, h2]
        cases want <;> cases b' <;> rfl
      · rename_i vs hb
        simp only [Option.some.injEq, Prod.mk.injEq] at h
        obtain ⟨rfl, rfl⟩ := h
        refine Sound.refl fun D ρ T a hf hT => ?_
        have h1 := (hf d _ (hT d (by simp [hg]) (by simp [hg, hd])) hb).1
        have h2 : yielded ops a.tmps j = none := by
          unfold yielded
          rw [hd]
          simp only [Option.bind_some]
          rw [h1]
          rfl
        simp only [Region.wanted, hg, h2]
        rfl
      · cases h

def putE (e : Env) (d : Option Tmp) (v : Value) : Env := match d with | some d => e.put d v | none => e
/-- what an operation leaves: the slot, the log -/
structure OpRes (o : Oper) (view : Mem) (st : St) (v : Value) (l : Log) (st' : St) : Prop where
  nx : st.nx ≤ st'.nx
  n : st'.n = st.n
  log : LogOK view st.nx st'.nx l
  mem : st'.mem = st.mem.add l
  logs : st'.log = l ++ st.log
  env : st'.env = putE st.env o.dst v
  lt : ∀ d, o.dst = some d → d < st.n
theorem put_spec {st st' : St} {d : Option Tmp} {v : Value} (h : st.put d v = some st') : st' = { st with env := putE st.env d v } ∧ ∀ t, d = some t → t < st.n := by
  unfold St.put at h
  split at h
  · simp only [Option.some.injEq] at h; subst h
    exact ⟨rfl, fun _ h => by cases h⟩
  · rename_i t
    cases hb : Nat.blt t st.n <;> simp only [hb, cond] at h
    · cases h
    · simp only [Option.some.injEq] at h; subst h
      refine ⟨rfl, fun s hs => ?_⟩
      cases hs
      simpa [Nat.blt_eq] using hb
theorem runOp_S {call : CallF} (hc : CallS P A call) {ops : Array Oper} {o : Oper} {ev : Operand → Option Value} {view : Mem} {st st' : St} {l : Log} (h : runOp P call ops o ev view st = some (l, st')) {T : Nat → Prop} (hl : Looks T st.env ev)
    (hT : ∀ d, d ∈ (match o.guard with | some (g, _) => ((ops[g]?).bind (·.dst)).toList | none => []) → T d) :
    ∃ v, OpRes o view st v l st' ∧ Sound P A st.ts st'.ts (∀ (i : Nat) (D : Nat → Prop) (ρ : Nm) (a : Act) (w : World) (K : Act → World → Prop) (Q : Exit → Act → World → Prop), ops[i]? = some o →
      FrOK D ρ T st.env a → MemOK P A D ρ view w → (∀ i, D i → ¬ (st.nx ≤ i ∧ i < st'.nx)) → (∀ ρ' w', Aft P A D ρ view st.nx w v l st'.nx ρ' w' → K (a.put o.dst (ren ρ' v)) w') → wpOp P ops Q i K a w) := by
  unfold runOp at h
  split at h
  · rename_i ts hw
    split at h
    · rename_i v l' nx ts' hs
      split at h
      · rename_i st1 hp
        simp only [Option.some.injEq, Prod.mk.injEq] at h
        obtain ⟨rfl, rfl⟩ := h
        obtain ⟨rfl, hlt⟩ := put_spec hp
        obtain ⟨h1, h2, h3⟩ := opStep_S hc hs
        refine ⟨v, ⟨h1, rfl, h2, rfl, rfl, rfl, hlt⟩, ?_⟩
        refine Sound.bind (wanted_S hw) (Sound.like (ts' := ts') (h3.mono fun k hwant i D ρ a w K Q hi hf hm hd hk => ?_) ⟨rfl, rfl⟩ ⟨rfl, rfl⟩)
        unfold wpOp
        rw [hi]
        show if Region.wanted o (yielded ops a.tmps) = true then _ else _
        rw [if_pos (hwant D ρ T a hf fun d _ hd => hT d hd)]
        exact Or.inl (k D ρ a w K Q (hl.ev hf) hm hd hk)
      · cases h
    · cases h
  · rename_i ts hw
    split at h
    · rename_i st1 hp
      simp only [Option.some.injEq, Prod.mk.injEq] at h
      obtain ⟨rfl, rfl⟩ := h
      obtain ⟨rfl, hlt⟩ := put_spec hp
      refine ⟨undef, ⟨Nat.le_refl _, rfl, fun e he => (by cases he), rfl, rfl, rfl, hlt⟩, ?_⟩
      refine Sound.like (ts' := ts) ((wanted_S (P := P) (A := A) hw).mono fun hwant i D ρ a w K Q hi hf hm hd hk => ?_) ⟨rfl, rfl⟩ ⟨rfl, rfl⟩
      unfold wpOp
      rw [hi]
      show if Region.wanted o (yielded ops a.tmps) = true then _ else _
      rw [if_neg (by rw [hwant D ρ T a hf fun d _ hd => hT d hd]; exact Bool.false_ne_true)]
      exact hk ρ w (Aft.refl hm (Fit.real rfl))
    · cases h
  · cases h

/-! ### states -/
structure StOK (P : Program) (A : Amb) (D : Nat → Prop) (ρ : Nm) (st : St) (a : Act) (w : World) : Prop where
  fr : FrOK D ρ (fun _ => True) st.env a
  size : a.tmps.size = st.n
  defers : a.defers = []
  mem : MemOK P A D ρ st.mem w
/-- what is behind a state, as far as the reckoning goes -/
structure Ext (st st' : St) : Prop where
  nx : st.nx ≤ st'.nx
  n : st'.n = st.n
  mem : ∃ l, st'.mem = st.mem.add l ∧ LogOK st.mem st.nx st'.nx l ∧ st'.log = l ++ st.log
structure StAft (P : Program) (A : Amb) (D : Nat → Prop) (ρ : Nm) (st : St) (w : World) (st' : St) (ρ' : Nm) (a' : Act) (w' : World) : Prop where
  same : ∀ i, ¬ (st.nx ≤ i ∧ i < st'.nx) → ρ' i = ρ i
  ok : StOK P A (ext D st.nx st'.nx) ρ' st' a' w'
  kept : Kept (owns ρ st.mem) w w'
  new : ∀ i b, st.nx ≤ i → i < st'.nx → st'.mem i = some b → w.heap.size ≤ (ρ' i).1 ∨ owns ρ st.mem (ρ' i).1
theorem StOK.mono {D E : Nat → Prop} {ρ : Nm} {st : St} {a : Act} {w : World} (h : StOK P A D ρ st a w) (he : ∀ i, D i → E i) : StOK P A E ρ st a w :=
  ⟨fun t u ht hu => ⟨(h.fr t u ht hu).1, (h.fr t u ht hu).2.mono he⟩, h.size, h.defers, h.mem.mono he⟩
theorem Ext.refl (st : St) : Ext st st := ⟨Nat.le_refl _, rfl, [], rfl, fun _ h => (by cases h), rfl⟩
theorem LogOK.more {m m' : Mem} {a b c d : Nat} {l : Log} (h : LogOK m a b l) (hm : ∀ i, (m i).isSome = true → (m' i).isSome = true ∨ (c ≤ i ∧ i < d)) (h1 : c ≤ a) (h2 : b ≤ d) : LogOK m' c d l := fun e he => by
  rcases h e he with h | h
  · exact hm _ h
  · exact Or.inr ⟨by omega, by omega⟩
theorem add_isSome {m : Mem} {a b : Nat} {l : Log} (h : LogOK m a b l) (i : Nat) (k : (m.add l i).isSome = true) : (m i).isSome = true ∨ (a ≤ i ∧ i < b) := by
  obtain ⟨c, hc⟩ := Option.isSome_iff_exists.1 k
  exact add_dom h hc
theorem Ext.trans {a b c : St} (h : Ext a b) (k : Ext b c) : Ext a c := by
  obtain ⟨h1, h2, l, h3, h4, h5⟩ := h
  obtain ⟨k1, k2, l', k3, k4, k5⟩ := k
  refine ⟨Nat.le_trans h1 k1, k2.trans h2, l' ++ l, by rw [k3, h3, add_append], fun e he => ?_, by rw [k5, h5, List.append_assoc]⟩
  rcases List.mem_append.1 he with he | he
  · refine (k4.more (m' := a.mem) (c := a.nx) (d := c.nx) (fun i hi => ?_) h1 (Nat.le_refl _)) e he
    rw [h3] at hi
    rcases add_isSome h4 i hi with h | h
    · exact Or.inl h
    · exact Or.inr ⟨h.1, Nat.lt_of_lt_of_le h.2 k1⟩
  · exact (h4.more (fun i hi => Or.inl hi) (Nat.le_refl _) k1) e he
theorem StAft.refl {D : Nat → Prop} {ρ : Nm} {st : St} {a : Act} {w : World} (h : StOK P A D ρ st a w) : StAft P A D ρ st w st ρ a w :=
  ⟨fun _ _ => rfl, h.mono fun _ => Or.inl, Kept.refl _ _, fun _ _ h1 h2 => by omega⟩
theorem ext_disj {D : Nat → Prop} {a b c : Nat} (h : ∀ i, D i → ¬ (a ≤ i ∧ i < c)) (h1 : a ≤ b) : ∀ i, ext D a b i → ¬ (b ≤ i ∧ i < c) := fun i hi k => by
  rcases hi with hi | hi
  · exact h i hi ⟨by omega, k.2⟩
  · omega
theorem StAft.trans {D : Nat → Prop} {ρ ρ1 ρ2 : Nm} {s0 s1 s2 : St} {a1 a2 : Act} {w w1 w2 : World} (e1 : Ext s0 s1) (e2 : Ext s1 s2) (hm : MemOK P A D ρ s0.mem w) (hD : ∀ i, D i → ¬ (s0.nx ≤ i ∧ i < s2.nx))
    (h : StAft P A D ρ s0 w s1 ρ1 a1 w1) (k : StAft P A (ext D s0.nx s1.nx) ρ1 s1 w1 s2 ρ2 a2 w2) : StAft P A D ρ s0 w s2 ρ2 a2 w2 := by
  have n1 := e1.nx; have n2 := e2.nx
  have hin : ∀ {i : Nat} {b : Blk}, s0.mem i = some b → ¬ (s0.nx ≤ i ∧ i < s2.nx) := fun e => hD _ (hm.dom e).1
  obtain ⟨l1, m1, o1, _⟩ := e1.mem
  obtain ⟨l2, m2, o2, _⟩ := e2.mem
  refine ⟨fun i hi => (k.same i (by omega)).trans (h.same i (by omega)), k.ok.mono fun i hi => ?_, Kept.trans h.kept k.kept (fun _ _ h => h) (fun b hb hk => ?_), fun i b h1 h2 hi => ?_⟩
  · rcases hi with (hi | hi) | hi
    · exact Or.inl hi
    · exact Or.inr ⟨hi.1, by omega⟩
    · exact Or.inr ⟨by omega, hi.2⟩
  · obtain ⟨i, c, hi, rfl⟩ := hk
    rw [m1] at hi
    rcases add_dom o1 hi with h0 | h0
    · obtain ⟨c', hc'⟩ := Option.isSome_iff_exists.1 h0
      have := hin hc'
      exact ⟨i, c', hc', by rw [h.same i (by omega)]⟩
    · rcases h.new i c h0.1 h0.2 (by rw [m1]; exact hi) with h9 | h9
      · omega
      · exact h9
  · by_cases hlt : i < s1.nx
    · have hi2 := hi
      rw [m2] at hi2
      rcases add_dom o2 hi2 with h0 | h0
      · obtain ⟨c', hc'⟩ := Option.isSome_iff_exists.1 h0
        have := h.new i c' h1 hlt hc'
        rwa [k.same i (by omega)]
      · omega
    · rcases k.new i b (by omega) h2 hi with h9 | ⟨j, c', hj, hje⟩
      · have := h.kept.size
        exact Or.inl (by omega)
      · rw [hje]
        have hj2 := hj
        rw [m1] at hj2
        rcases add_dom o1 hj2 with h0 | h0
        · obtain ⟨c2, hc2⟩ := Option.isSome_iff_exists.1 h0
          have := hin hc2
          exact Or.inr ⟨j, c2, hc2, by rw [h.same j (by omega)]⟩
        · exact h.new j c' h0.1 h0.2 hj

/-- one operation, in the order of the text -/
theorem OpRes.ext {o : Oper} {st st' : St} {v : Value} {l : Log} (h : OpRes o st.mem st v l st') : Ext st st' := ⟨h.nx, h.n, l, h.mem, h.log, h.logs⟩
theorem put_size (a : Act) (d : Option Tmp) (v : Value) : (a.put d v).tmps.size = a.tmps.size := by cases d <;> simp [Act.put]
theorem put_defers_ (a : Act) (d : Option Tmp) (v : Value) : (a.put d v).defers = a.defers := by cases d <;> rfl
theorem put_get {a : Act} {d t : Nat} {v : Value} (h : d < a.tmps.size) : (a.put (some d) v).tmps[t]? = if t = d then some v else a.tmps[t]? := by
  simp only [Act.put]
  by_cases e : t = d
  · subst e; simp [h]
  · rw [if_neg e, Array.getElem?_setIfInBounds_ne (fun h => e h.symm)]
theorem OpRes.aft {D : Nat → Prop} {ρ ρ' : Nm} {o : Oper} {st st' : St} {v : Value} {l : Log} {a : Act} {w w' : World} (h : OpRes o st.mem st v l st') (hs : StOK P A D ρ st a w) (hD : ∀ i, D i → ¬ (st.nx ≤ i ∧ i < st'.nx)) (k : Aft P A D ρ st.mem st.nx w v l st'.nx ρ' w') :
    StAft P A D ρ st w st' ρ' (a.put o.dst (ren ρ' v)) w' := by
  have old : ∀ {u : Value}, Fit D u → ren ρ' u = ren ρ u := fun hu => hu ρ' ρ fun i hi => k.same i (hD i hi)
  refine ⟨k.same, ⟨fun t u _ hu => ?_, by rw [put_size, hs.size, h.n], by rw [put_defers_]; exact hs.defers, by rw [h.mem]; exact k.mem⟩, k.kept, fun i b h1 h2 hi => k.new i b h1 h2 (by rw [← h.mem]; exact hi)⟩
  rw [h.env] at hu
  cases hd : o.dst with
  | none =>
    rw [hd] at hu
    obtain ⟨h1, h2⟩ := hs.fr t u trivial hu
    exact ⟨by rw [old h2]; exact h1, h2.mono fun _ => Or.inl⟩
  | some d =>
    rw [hd] at hu
    have hlt : d < a.tmps.size := by rw [hs.size]; exact h.lt d hd
    rw [put_get hlt]
    simp only [putE, Env.put] at hu
    cases hb : Nat.beq t d <;> simp only [hb, cond] at hu
    · rw [if_neg (Nat.ne_of_beq_eq_false hb)]
      obtain ⟨h1, h2⟩ := hs.fr t u trivial hu
      exact ⟨by rw [old h2]; exact h1, h2.mono fun _ => Or.inl⟩
    · rw [if_pos (Nat.eq_of_beq_eq_true hb)]
      simp only [Option.some.injEq] at hu
      subst hu
      exact ⟨rfl, k.fit⟩

/-- c is run from st and comes to st' -/
def StepS (P : Program) (A : Amb) (c : (Act → World → Prop) → Act → World → Prop) (st st' : St) : Prop :=
  Ext st st' ∧ Sound P A st.ts st'.ts (∀ (D : Nat → Prop) (ρ : Nm) (a : Act) (w : World) (K : Act → World → Prop), StOK P A D ρ st a w → (∀ i, D i → ¬ (st.nx ≤ i ∧ i < st'.nx)) →
    (∀ ρ' a' w', StAft P A D ρ st w st' ρ' a' w' → K a' w') → c K a w)
theorem StepS.bind {c d e : (Act → World → Prop) → Act → World → Prop} {s0 s1 s2 : St} (h : StepS P A c s0 s1) (k : StepS P A d s1 s2) (hcd : ∀ K a w, c (d K) a w → e K a w) : StepS P A e s0 s2 := by
  obtain ⟨h1, h2⟩ := h
  obtain ⟨k1, k2⟩ := k
  refine ⟨h1.trans k1, h2.bind (k2.mono fun k' h' D ρ a w K hs hD hk => hcd K a w (h' D ρ a w (d K) hs (fun i hi => fun ⟨x, y⟩ => hD i hi ⟨x, by have := k1.nx; omega⟩) fun ρ1 a1 w1 h3 => ?_))⟩
  exact k' _ ρ1 a1 w1 K h3.ok (ext_disj hD h1.nx) fun ρ2 a2 w2 h4 => hk ρ2 a2 w2 (StAft.trans h1 k1 hs.mem hD h3 h4)
theorem runSeq_S {call : CallF} (hc : CallS P A call) {ops : Array Oper} {Q : Exit → Act → World → Prop} : ∀ (os : List Oper) (i : Nat) (st st' : St), ops.toList.drop i = os → runSeq P call ops os st = some st' →
    StepS P A (fun K a w => ∀ Q : Exit → Act → World → Prop, (∀ a w, K a w → Q .normal a w) → wpOps P ops Q (List.range' i os.length) a w) st st'
  | [], i, st, st', _, h => by
    simp only [runSeq, Option.some.injEq] at h
    subst h
    exact ⟨Ext.refl _, Sound.refl fun D ρ a w K hs hD hk Q hq => hq a w (hk ρ a w (StAft.refl hs))⟩
  | o :: os, i, st, st', hd, h => by
    simp only [runSeq] at h
    split at h
    · rename_i l st1 h1
      have hi : ops[i]? = some o := by
        have : (ops.toList.drop i)[0]? = some o := by rw [hd]; rfl
        simpa using this
      have hd' : ops.toList.drop (i + 1) = os := by
        rw [← List.drop_drop, hd]; rfl
      obtain ⟨v, hr, hs⟩ := runOp_S hc h1 (Looks.all st.env) (fun _ _ => trivial)
      have k := runSeq_S hc (Q := Q) os (i + 1) st1 st' hd' h
      refine StepS.bind (c := fun K a w => ∀ Q : Exit → Act → World → Prop, wpOp P ops Q i K a w) (s1 := st1) ⟨hr.ext, hs.mono fun hs D ρ a w K ho hD hk Q => ?_⟩ k (fun K a w h Q hq => ?_)
      · exact hs i D ρ a w K Q hi ho.fr ho.mem hD fun ρ' w' ha => hk ρ' _ w' (hr.aft ho hD ha)
      · show wpOps P ops Q (i :: List.range' (i + 1) os.length) a w
        rw [wpOps_cons]
        exact wpOp_mono (fun a w h => h Q hq) (h Q)
    · cases h
end Rx
end Go.Proofs.YtedfdphapcanoaaGreatDoor
