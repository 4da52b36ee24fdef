/- A run reckoned by the kernel: each operation, calls among them. No program. -/
import Derived.Test.YtedfdphapcanoaaGreatDoorRxR
set_option linter.unusedVariables false
set_option linter.unusedSimpArgs false
namespace Go.Proofs.YtedfdphapcanoaaGreatDoor
open Go.RowKit Go.Lib
namespace Rx
variable {P : Program} {A : Amb}

theorem call_run {o : Oper} {f : FuncId} {args : Array Operand} {ats : Array TypeId} (ho : o.op = .call ⟨.value (.func f), args, ats⟩) {a : Act} (hb : hasBody P f = true) {vs : List Value} (hv : args.toList.map a.eval = vs) (w : World) :
    (execOp a.eval o).run P w = .ok (.enter f vs.toArray) w := by
  unfold hasBody at hb
  split at hb
  · rename_i fn hf
    simp only [Bool.and_eq_true, Bool.not_eq_true'] at hb
    have h1 : ¬ fn.body = none := by cases h : fn.body <;> simp_all
    have h2 : args.map a.eval = vs.toArray := by rw [← hv, ← Array.toList_map]
    have h3 : ¬ fn.name = "runtime.NumGoroutine" := by simpa using hb.2
    simp [execOp, ho, resolve, Act.eval, Deferred.ofValue, invoke, callFunc, hf, program, Sem.run, Sem.run_bind, pure, Result.andThen_ok]
    rw [if_neg h3, if_neg h1, h2]
  · cases hb
theorem call_R {o : Oper} {f : FuncId} {args : Array Operand} {ats : Array TypeId} (ho : o.op = .call ⟨.value (.func f), args, ats⟩) {ev : Operand → Option Value} {m : Mem} {nx : Nat} {ts : Ts} {vs : List Value} (hv : evL ev args.toList = some vs) (hb : hasBody P f = true) {out : Out} (hc : CallR P A f vs m nx ts out) :
    OpS P A o ev m nx ts out.ts out.v out.log out.nx := by
  obtain ⟨h1, h2, _, h3⟩ := hc
  refine ⟨h1, h2, h3.mono fun k D ρ a w K Q he hm hd hk => ?_⟩
  obtain ⟨e1, e2⟩ := evL_spec he hv
  unfold Oper.wp
  rw [call_run ho hb e1 w]
  refine (k D ρ w hm e2 hd).mono ?_
  rintro e w' ⟨ρ', rfl, ha⟩
  exact hk ρ' w' ha
theorem opVal_S {o : Oper} {ev : Operand → Option Value} {m : Mem} {nx : Nat} {r : Value × Log × Nat} (h : opVal P o ev m nx = some r) (ts : Ts) :
    OpS P A o ev m nx ts ts r.1 r.2.1 r.2.2 := by
  unfold opVal at h
  split at h
  · rename_i x ho
    split at h
    · rename_i v hv
      simp only [Option.some.injEq] at h; subst h
      exact move_S (Or.inl ho) hv
    · cases h
  · rename_i x ho
    split at h
    · rename_i v hv
      simp only [Option.some.injEq] at h; subst h
      exact move_S (Or.inr ho) hv
    · cases h
  · rename_i c x y ho
    split at h
    · rename_i t ht
      split at h
      · rename_i va hva
        split at h
        · rename_i vb hvb
          split at h
          · rename_i p q hp
            simp only [Option.some.injEq] at h; subst h
            refine pick_S ho ht hva hvb ?_
            unfold pickB at hp
            split at hp
            · simp only [Option.some.injEq, Prod.mk.injEq] at hp
              obtain ⟨rfl, rfl⟩ := hp
              cases t <;> rfl
            · cases hp
          · split at h
            · simp only [Option.some.injEq] at h; subst h
              exact pick_S ho ht hva hvb rfl
            · simp only [Option.some.injEq] at h; subst h
              exact pick_S ho ht hva hvb rfl
        · cases h
      · cases h
    · cases h
  · rename_i T ho
    split at h
    · rename_i i hi
      split at h
      · rename_i z hz
        cases hb : (z.cells.toList.all real0 && z.cells.toList.all scal) <;> simp only [hb, cond] at h
        · cases h
        · simp only [Option.some.injEq] at h; subst h
          simp only [Bool.and_eq_true] at hb
          exact alloc_S ho hi hz hb.1
      · cases h
    · cases h
  · rename_i T x ho
    split at h
    · rename_i v hv
      cases hb : (notTuple v && v.cells.toList.all scal) <;> simp only [hb, cond] at h
      · cases h
      · simp only [Option.some.injEq] at h; subst h
        simp only [Bool.and_eq_true] at hb
        exact box_S ho hv hb.1
    · cases h
  · rename_i T x ho
    split at h
    · rename_i p hp
      split at h
      · rename_i v hv
        simp only [Option.some.injEq] at h; subst h
        exact load_S ho hp hv
      · cases h
    · cases h
  · rename_i T x y ho
    split at h
    · rename_i p hp
      split at h
      · rename_i v hv
        split at h
        · rename_i e he
          simp only [Option.some.injEq] at h; subst h
          exact store_S ho hp hv he
        · cases h
      · cases h
    · cases h
  · rename_i x ho
    split at h
    · rename_i ad hv
      simp only [Option.some.injEq] at h; subst h
      exact nilCheck_S ho hv
    · cases h
  · rename_i T x f ho
    split at h
    · rename_i id off k hv
      split at h
      · rename_i fs hfs
        split at h
        · rename_i fd hfd
          split at h
          · rename_i i hi
            cases hb : Nat.beq i.size 0 <;> simp only [hb, cond] at h
            · simp only [Option.some.injEq] at h; subst h
              exact fieldAddr_S ho hv hfs hfd hi hb
            · cases h
          · cases h
        · cases h
      · cases h
    · rename_i b off hv
      split at h
      · rename_i fs hfs
        split at h
        · rename_i fd hfd
          split at h
          · rename_i i hi
            cases hb : Nat.beq i.size 0 <;> simp only [hb, cond] at h
            · simp only [Option.some.injEq] at h; subst h
              exact fieldAddr_R ho hv hfs hfd hi hb
            · cases h
          · cases h
        · cases h
      · cases h
    · cases h
  · rename_i T ps ho
    split at h
    · rename_i v hv
      simp only [Option.some.injEq] at h; subst h
      exact build_S ho hv
    · cases h
  · rename_i x i ho
    split at h
    · rename_i vs hv
      split at h
      · rename_i v hvv
        cases hb : notTuple v <;> simp only [hb, cond] at h
        · cases h
        · simp only [Option.some.injEq] at h; subst h
          exact extract_S ho hv hvv hb
      · cases h
    · cases h
  · rename_i op T x y yT ho
    split at h
    · rename_i a ha
      split at h
      · rename_i b hb
        split at h
        · rename_i v hv
          simp only [Option.some.injEq] at h; subst h
          exact cmp_S ho ha hb hv
        · exact plainR_S h
      · cases h
    · cases h
  · rename_i T n ps ho
    exact buildSlice_S ho h
  · rename_i T x i ho
    split at h
    · rename_i a ha
      split at h
      · rename_i j hj
        split at h
        · rename_i v hv
          simp only [Option.some.injEq] at h; subst h
          exact index_S ho ha hj hv
        · exact plainR_S h
      · cases h
    · cases h
  · rename_i T x lo hi mx ho
    split at h
    · rename_i a ha
      split at h
      · rename_i v hv
        simp only [Option.some.injEq] at h; subst h
        exact slice_S ho ha hv
      · exact plainR_S h
    · cases h
  · rename_i f xs ys ho
    split at h
    · rename_i us hus
      split at h
      · rename_i vs hvs
        cases hb : (us.all flat && vs.all flat) <;> simp only [hb, cond] at h
        · cases h
        · simp only [Option.some.injEq] at h; subst h
          simp only [Bool.and_eq_true] at hb
          exact func_S ho hus hvs hb.1 hb.2
      · cases h
    · cases h
  · rename_i args ats ho
    split at h
    · rename_i s x hv
      exact append_S ho hv h
    · cases h
  · rename_i args ats ho
    split at h
    · rename_i a n c hv
      split at h
      · rename_i e he
        simp only [Option.some.injEq] at h; subst h
        exact len_S ho hv he
      · cases h
    · exact plainR_S h
  · rename_i args ats ho
    split at h
    · rename_i d x hv
      exact copy_S ho hv h
    · cases h
  · rename_i args ats ho
    split at h
    · rename_i x hv
      exact clear_S ho hv h
    · cases h
  · rename_i src dst x ho
    split at h
    · rename_i v hv
      split at h
      · rename_i r hr
        simp only [Option.some.injEq] at h; subst h
        exact conv_S ho hv hr
      · exact plainR_S h
    · cases h
  · exact plainR_S h
theorem closure_run {o : Oper} {t : Tmp} {f : FuncId} {args : Array Operand} {ats : Array TypeId} (ho : o.op = .call ⟨.value (.tmp t), args, ats⟩) {a : Act} (hb : hasBody P f = true) {xs ys : List Value} (ht : a.eval (.tmp t) = .func (.func f) xs.toArray ys.toArray) {vs : List Value} (hv : args.toList.map a.eval = vs) (w : World) :
    (execOp a.eval o).run P w = .ok (.enter f (xs ++ vs ++ ys).toArray) w := by
  unfold hasBody at hb
  split at hb
  · rename_i fn hf
    simp only [Bool.and_eq_true, Bool.not_eq_true'] at hb
    have h1 : ¬ fn.body = none := by cases h : fn.body <;> simp_all
    have h2 : args.map a.eval = vs.toArray := by rw [← hv, ← Array.toList_map]
    have h3 : ¬ fn.name = "runtime.NumGoroutine" := by simpa using hb.2
    simp [execOp, ho, resolve, ht, Deferred.ofValue, invoke, callFunc, hf, program, Sem.run, Sem.run_bind, pure, Result.andThen_ok]
    rw [if_neg h3, if_neg h1, h2]
    simp
  · cases hb
theorem closure_wp {o : Oper} {t : Tmp} {f : FuncId} {args : Array Operand} {ats : Array TypeId} (ho : o.op = .call ⟨.value (.tmp t), args, ats⟩) {ev : Operand → Option Value} {xs ys : Array Value} (ht : ev (.tmp t) = some (.func (.func f) xs ys)) {vs : List Value} (hv : evL ev args.toList = some vs) (hb : hasBody P f = true) (h1 : xs.toList.all flat = true) (h2 : ys.toList.all flat = true)
    {D : Nat → Prop} {ρ : Nm} {a : Act} {w : World} {K : Act → World → Prop} {Q : Exit → Act → World → Prop} {Z : Nm → Value → World → Prop} (he : EvOK D ρ ev a) {v : Value}
    (k : (∀ u ∈ xs.toList ++ vs ++ ys.toList, Fit D u) → Calls P f ((xs.toList ++ vs ++ ys.toList).map (ren ρ)).toArray w fun e w' => ∃ ρ', e = .returned (ren ρ' v) ∧ Z ρ' v w') (hk : ∀ ρ' w', Z ρ' v w' → K (a.put o.dst (ren ρ' v)) w') : o.wp P a w K Q := by
  obtain ⟨e1, e2⟩ := evL_spec he hv
  obtain ⟨e3, e4⟩ := he _ _ ht
  have m1 : ∀ ρ : Nm, xs.toList.map (ren ρ) = xs.toList.map (renS ρ) := fun ρ => List.map_congr_left fun v hv => flat_ren (List.all_eq_true.1 h1 v hv)
  have m2 : ∀ ρ : Nm, ys.toList.map (ren ρ) = ys.toList.map (renS ρ) := fun ρ => List.map_congr_left fun v hv => flat_ren (List.all_eq_true.1 h2 v hv)
  have hfit : ∀ ρ1 ρ2 : Nm, (∀ i, D i → ρ1 i = ρ2 i) → xs.toList.map (ren ρ1) = xs.toList.map (ren ρ2) ∧ ys.toList.map (ren ρ1) = ys.toList.map (ren ρ2) := fun ρ1 ρ2 hk => by
    have := e4 ρ1 ρ2 hk
    simp only [ren, ren1, ren0, Value.func.injEq, true_and] at this
    rw [m1, m1, m2, m2]
    exact ⟨by simpa using this.1, by simpa using this.2⟩
  unfold Oper.wp
  rw [closure_run (xs := xs.toList.map (ren ρ)) (ys := ys.toList.map (ren ρ)) ho hb (by rw [e3, m1, m2]; rfl) e1 w]
  have hk2 := k fun u hu => by
    rcases List.mem_append.1 hu with hu | hu
    · rcases List.mem_append.1 hu with hu | hu
      · exact fun ρ1 ρ2 hk => List.map_inj_left.1 (hfit ρ1 ρ2 hk).1 u hu
      · exact e2 u hu
    · exact fun ρ1 ρ2 hk => List.map_inj_left.1 (hfit ρ1 ρ2 hk).2 u hu
  rw [List.map_append, List.map_append] at hk2
  refine hk2.mono ?_
  rintro e w' ⟨ρ', rfl, ha⟩
  exact hk ρ' w' ha
theorem closure_R {o : Oper} {t : Tmp} {f : FuncId} {args : Array Operand} {ats : Array TypeId} (ho : o.op = .call ⟨.value (.tmp t), args, ats⟩) {ev : Operand → Option Value} {m : Mem} {nx : Nat} {ts : Ts} {xs ys : Array Value} (ht : ev (.tmp t) = some (.func (.func f) xs ys)) {vs : List Value} (hv : evL ev args.toList = some vs) (hb : hasBody P f = true) (h1 : xs.toList.all flat = true) (h2 : ys.toList.all flat = true) {out : Out} (hc : CallR P A f (xs.toList ++ vs ++ ys.toList) m nx ts out) :
    OpS P A o ev m nx ts out.ts out.v out.log out.nx := by
  obtain ⟨k1, k2, _, k3⟩ := hc
  exact ⟨k1, k2, k3.mono fun k D ρ a w K Q he hm hd hk => closure_wp (Z := fun ρ' v w' => Aft P A D ρ m nx w v out.log out.nx ρ' w') ho ht hv hb h1 h2 he (fun hf => k D ρ w hm hf hd) hk⟩
theorem opBase_S {call : CallF} (hc : CallS P A call) {o : Oper} {ev : Operand → Option Value} {m : Mem} {nx : Nat} {ts : Ts} {out : Out} (h : opBase P call o ev m nx ts = some out) :
    OpS P A o ev m nx ts out.ts out.v out.log out.nx := by
  unfold opBase at h
  split at h
  · rename_i f args ats ho
    split at h
    · rename_i vs hv
      cases hb : hasBody P f <;> simp only [hb, cond] at h
      · cases h
      · exact call_R ho hv hb (hc _ _ _ _ _ _ h)
    · cases h
  · rename_i t args ats ho
    split at h
    · rename_i f xs ys ht
      split at h
      · rename_i vs hv
        cases hb : (hasBody P f && xs.toList.all flat && ys.toList.all flat) <;> simp only [hb, cond] at h
        · cases h
        · simp only [Bool.and_eq_true] at hb
          exact closure_R ho ht hv hb.1.1 hb.1.2 hb.2 (hc _ _ _ _ _ _ h)
      · cases h
    · cases h
  · split at h
    · rename_i v l n hv
      simp only [Option.some.injEq] at h; subst h
      exact opVal_S hv ts
    · cases h
theorem ren_list_real {ρ : Nm} {vs : List Value} (h : vs.all real = true) : vs.map (ren ρ) = vs := by
  have : vs.map (ren ρ) = vs.map id := List.map_congr_left (fun v hv => ren_real (List.all_eq_true.1 h v hv))
  rw [this, List.map_id]
theorem owns_Own {D : Nat → Prop} {ρ : Nm} {m : Mem} {w : World} (h : MemOK P A D ρ m w) {b : Nat} (k : owns ρ m b) : A.Own b := by
  obtain ⟨i, c, hi, rfl⟩ := k
  exact (h.dom hi).2
/-- something happened that left all that there was -/
theorem Aft.below {D : Nat → Prop} {ρ : Nm} {m : Mem} {nx : Nat} {w w' : World} {v : Value} (h : MemOK P A D ρ m w) (hb : Below w.heap.size w w') (hv : Fit D v) : Aft P A D ρ m nx w v [] nx ρ w' :=
  ⟨fun _ _ => rfl, hv.mono fun _ => Or.inl, (h.kept (own := fun _ => False) (Kept.of_below hb) (fun _ k => k.elim) (fun _ _ _ k => k)).mono fun _ => Or.inl, Kept.of_below hb, fun _ _ h1 h2 => by omega⟩
theorem snapA_spec {D : Nat → Prop} {ρ : Nm} {m : Mem} {w : World} (h : MemOK P A D ρ m w) : ∀ {ids : List Nat} {sn : List (Nat × Blk)}, snapA m ids = some sn → ∀ e ∈ sn, Lies ρ w (ρ e.1).1 e.2.1 e.2.2.1 (P.cellsOf e.2.2.1) (ρ e.1).2 e.2.2.2
  | [], sn, e, x, hx => by
    simp only [snapA, Option.some.injEq] at e
    subst e; cases hx
  | i :: l, sn, e, x, hx => by
    simp only [snapA] at e
    split at e
    · rename_i b hb
      split at e
      · rename_i r hr
        simp only [Option.some.injEq] at e
        subst e
        rcases List.mem_cons.1 hx with rfl | hx
        · exact h.lies hb
        · exact snapA_spec h hr x hx
      · cases e
    · cases e
/-! ### what is known of some blocks alone -/
theorem add_in {m m' : Mem} {id : Nat} : ∀ {l : Log}, (∃ e ∈ l, e.1 = id) → m.add l id = m'.add l id
  | [], ⟨_, h, _⟩ => by cases h
  | (j, b) :: l, h => by
    simp only [Mem.add, Mem.put]
    cases hb : Nat.beq id j <;> simp only [cond]
    obtain ⟨e, he, rfl⟩ := h
    rcases List.mem_cons.1 he with rfl | he
    · simp at hb
    · exact add_in ⟨e, he, rfl⟩
theorem add_out {m : Mem} {id : Nat} {l : Log} (h : ¬ ∃ e ∈ l, e.1 = id) : m.add l id = m id := add_not fun e he hid => h ⟨e, he, hid⟩
theorem MemOK.sub {D : Nat → Prop} {ρ : Nm} {m m' : Mem} {w : World} (h : MemOK P A D ρ m w) (hs : ∀ i b, m' i = some b → m i = some b) : MemOK P A D ρ m' w :=
  ⟨h.s, fun e => h.dom (hs _ _ e), fun e => h.fit (hs _ _ e), fun e => h.lies (hs _ _ e), fun e f => h.inj (hs _ _ e) (hs _ _ f)⟩
/-- what was done with some blocks was done with all -/
theorem Aft.frame {D : Nat → Prop} {ρ ρ' : Nm} {m m' : Mem} {nx nx' : Nat} {w w' : World} {v : Value} {l : Log} (h : MemOK P A D ρ m w) (hs : ∀ i b, m' i = some b → m i = some b) (hl : LogOK m' nx nx' l)
    (hD : ∀ i, D i → ¬ (nx ≤ i ∧ i < nx')) (k : Aft P A D ρ m' nx w v l nx' ρ' w') : Aft P A D ρ m nx w v l nx' ρ' w' := by
  have hρ : ∀ i, D i → ρ i = ρ' i := fun i hi => (k.same i (hD i hi)).symm
  have cls : ∀ {i : Nat} {b : Blk}, m.add l i = some b → m'.add l i = some b ∨ (m i = some b ∧ m' i = none) := fun {i b} e => by
    by_cases ht : ∃ e ∈ l, e.1 = i
    · exact Or.inl (by rw [← e]; exact add_in ht)
    · rw [add_out ht] at e
      cases hm : m' i with
      | none => exact Or.inr ⟨e, rfl⟩
      | some c =>
        rw [add_out ht]
        rw [hs _ _ hm] at e
        exact Or.inl (hm.trans e)
  have ko : ∀ {b : Nat}, owns ρ m' b → owns ρ m b := fun ⟨i, c, hi, hb⟩ => ⟨i, c, hs _ _ hi, hb⟩
  have far : ∀ {i : Nat} {b : Blk}, m i = some b → m' i = none → ¬ owns ρ m' (ρ i).1 := fun {i b} e f ⟨j, c, hj, hb⟩ => h.inj e (hs _ _ hj) (fun he => by subst he; rw [f] at hj; cases hj) hb
  have nw : ∀ {i : Nat} {b : Blk}, m'.add l i = some b → ∀ {j : Nat} {c : Blk}, m j = some c → m' j = none → (ρ' i).1 ≠ (ρ j).1 := fun {i b} e {j c} f g he => by
    rcases add_dom hl e with h0 | h0
    · obtain ⟨c', hc'⟩ := Option.isSome_iff_exists.1 h0
      rw [← hρ i (h.dom (hs _ _ hc')).1] at he
      exact far f g ⟨i, c', hc', he.symm⟩
    · rcases k.new i b h0.1 h0.2 e with h9 | h9
      · have := h.lt f
        omega
      · rw [he] at h9
        exact far f g h9
  refine ⟨k.same, k.fit, ⟨k.mem.s, fun {i b} e => ?_, fun {i cs T r} e v hv => ?_, fun {i cs T r} e => ?_, fun {i j b c} e f hij => ?_⟩, k.kept.mono fun b _ hb => ko hb, fun i b h1 h2 e => ?_⟩
  · rcases cls e with e | ⟨e, f⟩
    · exact k.mem.dom e
    · exact ⟨Or.inl (h.dom e).1, by rw [← hρ i (h.dom e).1]; exact (h.dom e).2⟩
  · rcases cls e with e | ⟨e, f⟩
    · exact k.mem.fit e v hv
    · exact (h.fit e v hv).mono fun _ => Or.inl
  · rcases cls e with e | ⟨e, f⟩
    · exact k.mem.lies e
    · rw [← hρ i (h.dom e).1]
      exact ((h.lies e).same (k.kept.block _ (h.lies e).lt (far e f))).ren (h.fit e) hρ
  · rcases cls e with e | ⟨e, e'⟩ <;> rcases cls f with f | ⟨f, f'⟩
    · exact k.mem.inj e f hij
    · rw [← hρ j (h.dom f).1]; exact nw e f f'
    · rw [← hρ i (h.dom e).1]; exact (nw f e e').symm
    · rw [← hρ i (h.dom e).1, ← hρ j (h.dom f).1]; exact h.inj e f hij
  · rcases cls e with e | ⟨e, f⟩
    · exact (k.new i b h1 h2 e).imp id ko
    · exact absurd ⟨h1, h2⟩ (hD i (h.dom e).1)
theorem memL_snap {m : Mem} : ∀ {ids : List Nat} {sn : List (Nat × Blk)}, snapA m ids = some sn → sn.map (·.1) = ids ∧ (∀ i b, memL sn i = some b → m i = some b) ∧ ∀ i ∈ ids, (memL sn i).isSome = true
  | [], sn, e => by
    simp only [snapA, Option.some.injEq] at e
    subst e
    exact ⟨rfl, fun _ _ h => (by cases h), fun _ h => (by cases h)⟩
  | j :: l, sn, e => by
    simp only [snapA] at e
    split at e
    · rename_i b hb
      split at e
      · rename_i r hr
        simp only [Option.some.injEq] at e
        subst e
        obtain ⟨h1, h2, h3⟩ := memL_snap hr
        refine ⟨by rw [List.map_cons, h1], fun i c h => ?_, fun i hi => ?_⟩
        · simp only [memL, Mem.put] at h
          cases hij : Nat.beq i j <;> simp only [hij, cond] at h
          · exact h2 _ _ h
          · rw [Nat.eq_of_beq_eq_true hij, hb, h]
        · simp only [memL, Mem.put]
          cases hij : Nat.beq i j <;> simp only [cond]
          · rcases List.mem_cons.1 hi with rfl | hi
            · simp at hij
            · exact h3 i hi
          · rfl
      · cases e
    · cases e
theorem has1_mem {l : List Nat} {x : Nat} (h : has1 l x = true) : x ∈ l := by
  obtain ⟨y, hy, hxy⟩ := List.any_eq_true.1 h
  rw [← Nat.eq_of_beq_eq_true hxy]; exact hy
theorem outLog_ok {m : Mem} {ids : List Nat} {sn out : List (Nat × Blk)} {nx d : Nat} (h : snapA m ids = some sn) (ho : outOK ids nx d out = true) : LogOK (memL sn) nx (nx + d) (outLog sn out) := by
  obtain ⟨h1, h2, h3⟩ := memL_snap h
  intro e he
  rcases List.mem_append.1 he with he | he
  · obtain ⟨x, hx, rfl⟩ := List.mem_map.1 he
    have := List.all_eq_true.1 ho x hx
    rw [Bool.or_eq_true, Bool.and_eq_true] at this
    rcases this with h | ⟨h, h'⟩
    · exact Or.inl (h3 _ (has1_mem h))
    · exact Or.inr ⟨Nat.le_of_ble_eq_true h, by simpa [Nat.blt_eq] using h'⟩
  · obtain ⟨x, hx, rfl⟩ := List.mem_map.1 he
    exact Or.inl (h3 _ (by rw [← h1]; exact List.mem_map_of_mem hx))
theorem LogOK.sub {m m' : Mem} {a b : Nat} {l : Log} (h : LogOK m' a b l) (hs : ∀ i b, m' i = some b → m i = some b) : LogOK m a b l := fun e he => (h e he).imp (fun h => by
  obtain ⟨c, hc⟩ := Option.isSome_iff_exists.1 h
  rw [hs _ _ hc]; rfl) id
theorem sem_some {ev : Operand → Option Value} {o : Oper} (hr : allSome ev o = true) {D : Nat → Prop} {ρ : Nm} {a : Act} (h : EvOK D ρ ev a) : execOp a.eval o = semR ev o ρ := by
  simp only [allSome, Bool.and_eq_true, Bool.not_eq_true'] at hr
  refine execOp_congr o (fun cs b e => by rw [e] at hr; simp [isSel] at hr) fun x hx => ?_
  have h1 := List.all_eq_true.1 hr.2 x (by simpa using hx)
  obtain ⟨v, hv⟩ := Option.isSome_iff_exists.1 h1
  rw [(h x v hv).1, hv]; rfl
theorem opStep_S {call : CallF} (hc : CallS P A call) {o : Oper} {ev : Operand → Option Value} {m : Mem} {nx : Nat} {ts : Ts} {out : Out} (h : opStep P call o ev m nx ts = some out) :
    OpS P A o ev m nx ts out.ts out.v out.log out.nx := by
  unfold opStep at h
  split at h
  · rename_i v r hp
    cases hb : (allReal ev o && real v) <;> simp only [hb, cond] at h
    · cases h
    · simp only [Option.some.injEq] at h; subst h
      simp only [Bool.and_eq_true] at hb
      refine ⟨Nat.le_refl _, fun e he => (by cases he), (Sound.pop hp (.s (semOf ev o))).mono fun k D ρ a w K Q he hm hd hk => ?_⟩
      refine oper_val ?_ (hk ρ w (Aft.refl hm (Fit.real hb.2)))
      rw [sem_real hb.1 he, ren_real hb.2]
      exact k w hm.s
  · rename_i v r hp
    split at h
    · rename_i f args ats ho
      split at h
      · rename_i vs hv
        cases hb : (vs.all real && real v && hasBody P f) <;> simp only [hb, cond] at h
        · cases h
        · simp only [Option.some.injEq] at h; subst h
          simp only [Bool.and_eq_true] at hb
          obtain ⟨⟨b1, b2⟩, b3⟩ := hb
          refine ⟨Nat.le_refl _, fun e he => (by cases he), (Sound.pop hp (.c f vs)).mono fun k D ρ a w K Q he hm hd hk => ?_⟩
          obtain ⟨e1, e2⟩ := evL_spec he hv
          unfold Oper.wp
          rw [call_run ho b3 e1 w, ren_list_real b1]
          refine (k w hm.s).mono ?_
          rintro e w' ⟨rfl, hw⟩
          have := hk ρ w' (Aft.below hm hw (Fit.real b2))
          rwa [ren_real b2] at this
      · cases h
    · cases h
  · rename_i ids v r hp
    split at h
    · rename_i f args ats ho
      split at h
      · rename_i vs hv
        split at h
        · rename_i sn hsn
          cases hb : (real v && hasBody P f) <;> simp only [hb, cond] at h
          · cases h
          · simp only [Option.some.injEq] at h; subst h
            simp only [Bool.and_eq_true] at hb
            obtain ⟨b2, b3⟩ := hb
            refine ⟨Nat.le_refl _, fun e he => (by cases he), (Sound.pop hp (.cr f vs sn)).mono fun k D ρ a w K Q he hm hd hk => ?_⟩
            obtain ⟨e1, e2⟩ := evL_spec he hv
            unfold Oper.wp
            rw [call_run ho b3 e1 w]
            refine (k ρ w hm.s (snapA_spec hm hsn)).mono ?_
            rintro e w' ⟨rfl, hw⟩
            have := hk ρ w' (Aft.below hm hw (Fit.real b2))
            rwa [ren_real b2] at this
        · cases h
      · cases h
    · cases h
  · rename_i y r hp
    split at h
    · rename_i v l n hv
      simp only [Option.some.injEq] at h; subst h
      obtain ⟨h1, h2, h3⟩ := opVal_S (A := A) hv ts
      refine ⟨h1, h2, (Sound.pop hp (.v v)).mono fun k => ?_⟩
      have k : v = y := k
      subst k
      obtain ⟨l', ⟨e1, _⟩, e2⟩ := h3
      have : l' = [] := by
        have := congrArg List.length e1
        simp at this; exact this
      subst this
      exact e2 fun _ hp => by cases hp
    · cases h
  · rename_i ids v out d r hp
    split at h
    · rename_i sn hsn
      cases hb : outOK ids nx d out <;> simp only [hb, cond] at h
      · cases h
      · split at h
        · rename_i f vs hcal
          simp only [Option.some.injEq] at h; subst h
          have hl := outLog_ok hsn hb
          obtain ⟨h1, h2, h3⟩ := memL_snap hsn
          refine ⟨Nat.le_add_right _ _, hl.sub h2, (Sound.pop hp (.cm f vs sn nx (hasBody P f))).mono fun k D ρ a w K Q he hm hd hk => ?_⟩
          obtain ⟨hbd, k⟩ := k
          have hk' : ∀ ρ' w', Aft P A D ρ (memL sn) nx w v (outLog sn out) (nx + d) ρ' w' → K (a.put o.dst (ren ρ' v)) w' := fun ρ' w' ha => hk ρ' w' (ha.frame hm h2 hl hd)
          unfold calleeA at hcal
          split at hcal
          · rename_i g args ats ho
            split at hcal
            · rename_i us hv
              simp only [Option.some.injEq, Prod.mk.injEq] at hcal
              obtain ⟨rfl, rfl⟩ := hcal
              obtain ⟨e1, e2⟩ := evL_spec he hv
              unfold Oper.wp
              rw [call_run ho hbd e1 w]
              refine (k D ρ w (hm.sub h2) e2 hd).mono ?_
              rintro e w' ⟨ρ', rfl, ha⟩
              exact hk' ρ' w' ha
            · cases hcal
          · rename_i t args ats ho
            split at hcal
            · rename_i g xs ys ht
              split at hcal
              · rename_i us hv
                cases hb2 : (xs.toList.all flat && ys.toList.all flat) <;> simp only [hb2, cond] at hcal
                · cases hcal
                · simp only [Option.some.injEq, Prod.mk.injEq] at hcal
                  obtain ⟨rfl, rfl⟩ := hcal
                  simp only [Bool.and_eq_true] at hb2
                  exact closure_wp (Z := fun ρ' v w' => Aft P A D ρ (memL sn) nx w v (outLog sn out) (nx + d) ρ' w') ho ht hv hbd hb2.1 hb2.2 he (fun hf => k D ρ w (hm.sub h2) hf hd) hk'
              · cases hcal
            · cases hcal
          · cases hcal
        · cases hb2 : allSome ev o <;> simp only [hb2, cond] at h
          · cases h
          · simp only [Option.some.injEq] at h; subst h
            have hl := outLog_ok hsn hb
            obtain ⟨h1, h2, h3⟩ := memL_snap hsn
            refine ⟨Nat.le_add_right _ _, hl.sub h2, (Sound.pop hp (.sm (semR ev o) sn nx)).mono fun k D ρ a w K Q he hm hd hk => ?_⟩
            unfold Oper.wp
            rw [sem_some hb2 he]
            exact k D ρ w o a K Q (hm.sub h2) hd fun ρ' w' ha => hk ρ' w' (ha.frame hm h2 hl hd)
    · cases h
  · exact opBase_S hc h
end Rx
end Go.Proofs.YtedfdphapcanoaaGreatDoor
