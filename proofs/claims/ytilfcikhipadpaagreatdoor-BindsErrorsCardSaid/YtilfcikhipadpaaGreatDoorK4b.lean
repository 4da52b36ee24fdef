/- Several texts of this claim, one behind the other. -/
import Derived.Test.YtilfcikhipadpaaGreatDoorK3b
import Derived.Orders
import Derived.RegionTactic

section
/- A run reckoned by the kernel: each operation, calls among them. No program. -/
set_option linter.unusedVariables false
set_option linter.unusedSimpArgs false
namespace Go.Proofs.YtilfcikhipadpaaGreatDoor
open Go.RowKit Go.Lib
namespace Rx
variable {P : Program} {A : Amb}

theorem call_run {o : Oper} {f : FuncId} {args : Array Operand} {ats : Array TypeId} (ho : o.op = .call ⟨.value (.func f), args, ats⟩) {a : Act} (hb : hasBody P f = true) {vs : List Value} (hv : args.toList.map a.eval = vs) (w : World) :
    (execOp a.eval o).run P w = .ok (.enter f vs.toArray) w := by
  unfold hasBody at hb
  split at hb
  · rename_i fn hf
    simp only [Bool.and_eq_true, Bool.not_eq_true'] at hb
    have h1 : ¬ fn.body = none := by cases h : fn.body <;> simp_all
    have h2 : args.map a.eval = vs.toArray := by rw [← hv, ← Array.toList_map]
    have h3 : ¬ fn.name = "runtime.NumGoroutine" := by simpa using hb.2
    simp [execOp, ho, resolve, Act.eval, Deferred.ofValue, invoke, callFunc, hf, program, Sem.run, Sem.run_bind, pure, Result.andThen_ok]
    rw [if_neg h3, if_neg h1, h2]
  · cases hb
theorem call_R {o : Oper} {f : FuncId} {args : Array Operand} {ats : Array TypeId} (ho : o.op = .call ⟨.value (.func f), args, ats⟩) {ev : Operand → Option Value} {m : Mem} {nx : Nat} {ts : Ts} {vs : List Value} (hv : evL ev args.toList = some vs) (hb : hasBody P f = true) {out : Out} (hc : CallR P A f vs m nx ts out) :
    OpS P A o ev m nx ts out.ts out.v out.log out.nx := by
  obtain ⟨h1, h2, _, h3⟩ := hc
  refine ⟨h1, h2, h3.mono fun k D ρ a w K Q he hm hd hk => ?_⟩
  obtain ⟨e1, e2⟩ := evL_spec he hv
  unfold Oper.wp
  rw [call_run ho hb e1 w]
  refine (k D ρ w hm e2 hd).mono ?_
  rintro e w' ⟨ρ', rfl, ha⟩
  exact hk ρ' w' ha
theorem opVal_S {o : Oper} {ev : Operand → Option Value} {m : Mem} {nx : Nat} {r : Value × Log × Nat} (h : opVal P o ev m nx = some r) (ts : Ts) :
    OpS P A o ev m nx ts ts r.1 r.2.1 r.2.2 := by
  unfold opVal at h
  split at h
  · rename_i x ho
    split at h
    · rename_i v hv
      simp only [Option.some.injEq] at h; subst h
      exact move_S (Or.inl ho) hv
    · cases h
  · rename_i x ho
    split at h
    · rename_i v hv
      simp only [Option.some.injEq] at h; subst h
      exact move_S (Or.inr ho) hv
    · cases h
  · rename_i c x y ho
    split at h
    · rename_i t ht
      split at h
      · rename_i va hva
        split at h
        · rename_i vb hvb
          split at h
          · rename_i p q hp
            simp only [Option.some.injEq] at h; subst h
            refine pick_S ho ht hva hvb ?_
            unfold pickB at hp
            split at hp
            · simp only [Option.some.injEq, Prod.mk.injEq] at hp
              obtain ⟨rfl, rfl⟩ := hp
              cases t <;> rfl
            · cases hp
          · split at h
            · simp only [Option.some.injEq] at h; subst h
              exact pick_S ho ht hva hvb rfl
            · simp only [Option.some.injEq] at h; subst h
              exact pick_S ho ht hva hvb rfl
        · cases h
      · cases h
    · cases h
  · rename_i T ho
    split at h
    · rename_i i hi
      split at h
      · rename_i z hz
        cases hb : (z.cells.toList.all real0 && z.cells.toList.all scal) <;> simp only [hb, cond] at h
        · cases h
        · simp only [Option.some.injEq] at h; subst h
          simp only [Bool.and_eq_true] at hb
          exact alloc_S ho hi hz hb.1
      · cases h
    · cases h
  · rename_i T x ho
    split at h
    · rename_i v hv
      cases hb : (notTuple v && v.cells.toList.all scal) <;> simp only [hb, cond] at h
      · cases h
      · simp only [Option.some.injEq] at h; subst h
        simp only [Bool.and_eq_true] at hb
        exact box_S ho hv hb.1
    · cases h
  · rename_i T x ho
    split at h
    · rename_i p hp
      split at h
      · rename_i v hv
        simp only [Option.some.injEq] at h; subst h
        exact load_S ho hp hv
      · cases h
    · cases h
  · rename_i T x y ho
    split at h
    · rename_i p hp
      split at h
      · rename_i v hv
        split at h
        · rename_i e he
          simp only [Option.some.injEq] at h; subst h
          exact store_S ho hp hv he
        · cases h
      · cases h
    · cases h
  · rename_i x ho
    split at h
    · rename_i ad hv
      simp only [Option.some.injEq] at h; subst h
      exact nilCheck_S ho hv
    · cases h
  · rename_i T x f ho
    split at h
    · rename_i id off k hv
      split at h
      · rename_i fs hfs
        split at h
        · rename_i fd hfd
          split at h
          · rename_i i hi
            cases hb : Nat.beq i.size 0 <;> simp only [hb, cond] at h
            · simp only [Option.some.injEq] at h; subst h
              exact fieldAddr_S ho hv hfs hfd hi hb
            · cases h
          · cases h
        · cases h
      · cases h
    · rename_i b off hv
      split at h
      · rename_i fs hfs
        split at h
        · rename_i fd hfd
          split at h
          · rename_i i hi
            cases hb : Nat.beq i.size 0 <;> simp only [hb, cond] at h
            · simp only [Option.some.injEq] at h; subst h
              exact fieldAddr_R ho hv hfs hfd hi hb
            · cases h
          · cases h
        · cases h
      · cases h
    · cases h
  · rename_i T ps ho
    split at h
    · rename_i v hv
      simp only [Option.some.injEq] at h; subst h
      exact build_S ho hv
    · cases h
  · rename_i x i ho
    split at h
    · rename_i vs hv
      split at h
      · rename_i v hvv
        cases hb : notTuple v <;> simp only [hb, cond] at h
        · cases h
        · simp only [Option.some.injEq] at h; subst h
          exact extract_S ho hv hvv hb
      · cases h
    · cases h
  · rename_i op T x y yT ho
    split at h
    · rename_i a ha
      split at h
      · rename_i b hb
        split at h
        · rename_i v hv
          simp only [Option.some.injEq] at h; subst h
          exact cmp_S ho ha hb hv
        · exact plainR_S h
      · cases h
    · cases h
  · rename_i T n ps ho
    exact buildSlice_S ho h
  · rename_i T x i ho
    split at h
    · rename_i a ha
      split at h
      · rename_i j hj
        split at h
        · rename_i v hv
          simp only [Option.some.injEq] at h; subst h
          exact index_S ho ha hj hv
        · exact plainR_S h
      · cases h
    · cases h
  · rename_i T x lo hi mx ho
    split at h
    · rename_i a ha
      split at h
      · rename_i v hv
        simp only [Option.some.injEq] at h; subst h
        exact slice_S ho ha hv
      · exact plainR_S h
    · cases h
  · rename_i f xs ys ho
    split at h
    · rename_i us hus
      split at h
      · rename_i vs hvs
        cases hb : (us.all flat && vs.all flat) <;> simp only [hb, cond] at h
        · cases h
        · simp only [Option.some.injEq] at h; subst h
          simp only [Bool.and_eq_true] at hb
          exact func_S ho hus hvs hb.1 hb.2
      · cases h
    · cases h
  · rename_i args ats ho
    split at h
    · rename_i s x hv
      exact append_S ho hv h
    · cases h
  · rename_i args ats ho
    split at h
    · rename_i a n c hv
      split at h
      · rename_i e he
        simp only [Option.some.injEq] at h; subst h
        exact len_S ho hv he
      · cases h
    · exact plainR_S h
  · rename_i args ats ho
    split at h
    · rename_i d x hv
      exact copy_S ho hv h
    · cases h
  · rename_i args ats ho
    split at h
    · rename_i x hv
      exact clear_S ho hv h
    · cases h
  · rename_i src dst x ho
    split at h
    · rename_i v hv
      split at h
      · rename_i r hr
        simp only [Option.some.injEq] at h; subst h
        exact conv_S ho hv hr
      · exact plainR_S h
    · cases h
  · exact plainR_S h
theorem closure_run {o : Oper} {t : Tmp} {f : FuncId} {args : Array Operand} {ats : Array TypeId} (ho : o.op = .call ⟨.value (.tmp t), args, ats⟩) {a : Act} (hb : hasBody P f = true) {xs ys : List Value} (ht : a.eval (.tmp t) = .func (.func f) xs.toArray ys.toArray) {vs : List Value} (hv : args.toList.map a.eval = vs) (w : World) :
    (execOp a.eval o).run P w = .ok (.enter f (xs ++ vs ++ ys).toArray) w := by
  unfold hasBody at hb
  split at hb
  · rename_i fn hf
    simp only [Bool.and_eq_true, Bool.not_eq_true'] at hb
    have h1 : ¬ fn.body = none := by cases h : fn.body <;> simp_all
    have h2 : args.map a.eval = vs.toArray := by rw [← hv, ← Array.toList_map]
    have h3 : ¬ fn.name = "runtime.NumGoroutine" := by simpa using hb.2
    simp [execOp, ho, resolve, ht, Deferred.ofValue, invoke, callFunc, hf, program, Sem.run, Sem.run_bind, pure, Result.andThen_ok]
    rw [if_neg h3, if_neg h1, h2]
    simp
  · cases hb
theorem closure_wp {o : Oper} {t : Tmp} {f : FuncId} {args : Array Operand} {ats : Array TypeId} (ho : o.op = .call ⟨.value (.tmp t), args, ats⟩) {ev : Operand → Option Value} {xs ys : Array Value} (ht : ev (.tmp t) = some (.func (.func f) xs ys)) {vs : List Value} (hv : evL ev args.toList = some vs) (hb : hasBody P f = true) (h1 : xs.toList.all flat = true) (h2 : ys.toList.all flat = true)
    {D : Nat → Prop} {ρ : Nm} {a : Act} {w : World} {K : Act → World → Prop} {Q : Exit → Act → World → Prop} {Z : Nm → Value → World → Prop} (he : EvOK D ρ ev a) {v : Value}
    (k : (∀ u ∈ xs.toList ++ vs ++ ys.toList, Fit D u) → Calls P f ((xs.toList ++ vs ++ ys.toList).map (ren ρ)).toArray w fun e w' => ∃ ρ', e = .returned (ren ρ' v) ∧ Z ρ' v w') (hk : ∀ ρ' w', Z ρ' v w' → K (a.put o.dst (ren ρ' v)) w') : o.wp P a w K Q := by
  obtain ⟨e1, e2⟩ := evL_spec he hv
  obtain ⟨e3, e4⟩ := he _ _ ht
  have m1 : ∀ ρ : Nm, xs.toList.map (ren ρ) = xs.toList.map (renS ρ) := fun ρ => List.map_congr_left fun v hv => flat_ren (List.all_eq_true.1 h1 v hv)
  have m2 : ∀ ρ : Nm, ys.toList.map (ren ρ) = ys.toList.map (renS ρ) := fun ρ => List.map_congr_left fun v hv => flat_ren (List.all_eq_true.1 h2 v hv)
  have hfit : ∀ ρ1 ρ2 : Nm, (∀ i, D i → ρ1 i = ρ2 i) → xs.toList.map (ren ρ1) = xs.toList.map (ren ρ2) ∧ ys.toList.map (ren ρ1) = ys.toList.map (ren ρ2) := fun ρ1 ρ2 hk => by
    have := e4 ρ1 ρ2 hk
    simp only [ren, ren1, ren0, Value.func.injEq, true_and] at this
    rw [m1, m1, m2, m2]
    exact ⟨by simpa using this.1, by simpa using this.2⟩
  unfold Oper.wp
  rw [closure_run (xs := xs.toList.map (ren ρ)) (ys := ys.toList.map (ren ρ)) ho hb (by rw [e3, m1, m2]; rfl) e1 w]
  have hk2 := k fun u hu => by
    rcases List.mem_append.1 hu with hu | hu
    · rcases List.mem_append.1 hu with hu | hu
      · exact fun ρ1 ρ2 hk => List.map_inj_left.1 (hfit ρ1 ρ2 hk).1 u hu
      · exact e2 u hu
    · exact fun ρ1 ρ2 hk => List.map_inj_left.1 (hfit ρ1 ρ2 hk).2 u hu
  rw [List.map_append, List.map_append] at hk2
  refine hk2.mono ?_
  rintro e w' ⟨ρ', rfl, ha⟩
  exact hk ρ' w' ha
theorem closure_R {o : Oper} {t : Tmp} {f : FuncId} {args : Array Operand} {ats : Array TypeId} (ho : o.op = .call ⟨.value (.tmp t), args, ats⟩) {ev : Operand → Option Value} {m : Mem} {nx : Nat} {ts : Ts} {xs ys : Array Value} (ht : ev (.tmp t) = some (.func (.func f) xs ys)) {vs : List Value} (hv : evL ev args.toList = some vs) (hb : hasBody P f = true) (h1 : xs.toList.all flat = true) (h2 : ys.toList.all flat = true) {out : Out} (hc : CallR P A f (xs.toList ++ vs ++ ys.toList) m nx ts out) :
    OpS P A o ev m nx ts out.ts out.v out.log out.nx := by
  obtain ⟨k1, k2, _, k3⟩ := hc
  exact ⟨k1, k2, k3.mono fun k D ρ a w K Q he hm hd hk => closure_wp (Z := fun ρ' v w' => Aft P A D ρ m nx w v out.log out.nx ρ' w') ho ht hv hb h1 h2 he (fun hf => k D ρ w hm hf hd) hk⟩
theorem opBase_S {call : CallF} (hc : CallS P A call) {o : Oper} {ev : Operand → Option Value} {m : Mem} {nx : Nat} {ts : Ts} {out : Out} (h : opBase P call o ev m nx ts = some out) :
    OpS P A o ev m nx ts out.ts out.v out.log out.nx := by
  unfold opBase at h
  split at h
  · rename_i f args ats ho
    split at h
    · rename_i vs hv
      cases hb : hasBody P f <;> simp only [hb, cond] at h
      · cases h
      · exact call_R ho hv hb (hc _ _ _ _ _ _ h)
    · cases h
  · rename_i t args ats ho
    split at h
    · rename_i f xs ys ht
      split at h
      · rename_i vs hv
        cases hb : (hasBody P f && xs.toList.all flat && ys.toList.all flat) <;> simp only [hb, cond] at h
        · cases h
        · simp only [Bool.and_eq_true] at hb
          exact closure_R ho ht hv hb.1.1 hb.1.2 hb.2 (hc _ _ _ _ _ _ h)
      · cases h
    · cases h
  · split at h
    · rename_i v l n hv
      simp only [Option.some.injEq] at h; subst h
      exact opVal_S hv ts
    · cases h
theorem ren_list_real {ρ : Nm} {vs : List Value} (h : vs.all real = true) : vs.map (ren ρ) = vs := by
  have : vs.map (ren ρ) = vs.map id := List.map_congr_left (fun v hv => ren_real (List.all_eq_true.1 h v hv))
  rw [this, List.map_id]
/-- something happened that left all that there was -/
theorem Aft.below {D : Nat → Prop} {ρ : Nm} {m : Mem} {nx : Nat} {w w' : World} {v : Value} (h : MemOK P A D ρ m w) (hb : Below w.heap.size w w') (hv : Fit D v) : Aft P A D ρ m nx w v [] nx ρ w' :=
  ⟨fun _ _ => rfl, hv.mono fun _ => Or.inl, (h.kept (own := fun _ => False) (Kept.of_below hb) (fun _ k => k.elim) (fun _ _ _ k => k)).mono fun _ => Or.inl, Kept.of_below hb, fun _ _ h1 h2 => by omega⟩
theorem snapA_spec {D : Nat → Prop} {ρ : Nm} {m : Mem} {w : World} (h : MemOK P A D ρ m w) : ∀ {ids : List Nat} {sn : List (Nat × Blk)}, snapA m ids = some sn → ∀ e ∈ sn, Lies ρ w (ρ e.1).1 e.2.1 e.2.2.1 (P.cellsOf e.2.2.1) (ρ e.1).2 e.2.2.2
  | [], sn, e, x, hx => by
    simp only [snapA, Option.some.injEq] at e
    subst e; cases hx
  | i :: l, sn, e, x, hx => by
    simp only [snapA] at e
    split at e
    · rename_i b hb
      split at e
      · rename_i r hr
        simp only [Option.some.injEq] at e
        subst e
        rcases List.mem_cons.1 hx with rfl | hx
        · exact h.lies hb
        · exact snapA_spec h hr x hx
      · cases e
    · cases e
/-! ### what is known of some blocks alone -/
theorem add_in {m m' : Mem} {id : Nat} : ∀ {l : Log}, (∃ e ∈ l, e.1 = id) → m.add l id = m'.add l id
  | [], ⟨_, h, _⟩ => by cases h
  | (j, b) :: l, h => by
    simp only [Mem.add, Mem.put]
    cases hb : Nat.beq id j <;> simp only [cond]
    obtain ⟨e, he, rfl⟩ := h
    rcases List.mem_cons.1 he with rfl | he
    · simp at hb
    · exact add_in ⟨e, he, rfl⟩
theorem add_out {m : Mem} {id : Nat} {l : Log} (h : ¬ ∃ e ∈ l, e.1 = id) : m.add l id = m id := add_not fun e he hid => h ⟨e, he, hid⟩
theorem MemOK.sub {D : Nat → Prop} {ρ : Nm} {m m' : Mem} {w : World} (h : MemOK P A D ρ m w) (hs : ∀ i b, m' i = some b → m i = some b) : MemOK P A D ρ m' w :=
  ⟨h.s, fun e => h.dom (hs _ _ e), fun e => h.fit (hs _ _ e), fun e => h.lies (hs _ _ e), fun e f => h.inj (hs _ _ e) (hs _ _ f)⟩
/-- what was done with some blocks was done with all -/
theorem Aft.frame {D : Nat → Prop} {ρ ρ' : Nm} {m m' : Mem} {nx nx' : Nat} {w w' : World} {v : Value} {l : Log} (h : MemOK P A D ρ m w) (hs : ∀ i b, m' i = some b → m i = some b) (hl : LogOK m' nx nx' l)
    (hD : ∀ i, D i → ¬ (nx ≤ i ∧ i < nx')) (k : Aft P A D ρ m' nx w v l nx' ρ' w') : Aft P A D ρ m nx w v l nx' ρ' w' := by
  have hρ : ∀ i, D i → ρ i = ρ' i := fun i hi => (k.same i (hD i hi)).symm
  have cls : ∀ {i : Nat} {b : Blk}, m.add l i = some b → m'.add l i = some b ∨ (m i = some b ∧ m' i = none) := fun {i b} e => by
    by_cases ht : ∃ e ∈ l, e.1 = i
    · exact Or.inl (by rw [← e]; exact add_in ht)
    · rw [add_out ht] at e
      cases hm : m' i with
      | none => exact Or.inr ⟨e, rfl⟩
      | some c =>
        rw [add_out ht]
        rw [hs _ _ hm] at e
        exact Or.inl (hm.trans e)
  have ko : ∀ {b : Nat}, owns ρ m' b → owns ρ m b := fun ⟨i, c, hi, hb⟩ => ⟨i, c, hs _ _ hi, hb⟩
  have far : ∀ {i : Nat} {b : Blk}, m i = some b → m' i = none → ¬ owns ρ m' (ρ i).1 := fun {i b} e f ⟨j, c, hj, hb⟩ => h.inj e (hs _ _ hj) (fun he => by subst he; rw [f] at hj; cases hj) hb
  have nw : ∀ {i : Nat} {b : Blk}, m'.add l i = some b → ∀ {j : Nat} {c : Blk}, m j = some c → m' j = none → (ρ' i).1 ≠ (ρ j).1 := fun {i b} e {j c} f g he => by
    rcases add_dom hl e with h0 | h0
    · obtain ⟨c', hc'⟩ := Option.isSome_iff_exists.1 h0
      rw [← hρ i (h.dom (hs _ _ hc')).1] at he
      exact far f g ⟨i, c', hc', he.symm⟩
    · rcases k.new i b h0.1 h0.2 e with h9 | h9
      · have := h.lt f
        omega
      · rw [he] at h9
        exact far f g h9
  refine ⟨k.same, k.fit, ⟨k.mem.s, fun {i b} e => ?_, fun {i cs T r} e v hv => ?_, fun {i cs T r} e => ?_, fun {i j b c} e f hij => ?_⟩, k.kept.mono fun b _ hb => ko hb, fun i b h1 h2 e => ?_⟩
  · rcases cls e with e | ⟨e, f⟩
    · exact k.mem.dom e
    · exact ⟨Or.inl (h.dom e).1, by rw [← hρ i (h.dom e).1]; exact (h.dom e).2⟩
  · rcases cls e with e | ⟨e, f⟩
    · exact k.mem.fit e v hv
    · exact (h.fit e v hv).mono fun _ => Or.inl
  · rcases cls e with e | ⟨e, f⟩
    · exact k.mem.lies e
    · rw [← hρ i (h.dom e).1]
      exact ((h.lies e).same (k.kept.block _ (h.lies e).lt (far e f))).ren (h.fit e) hρ
  · rcases cls e with e | ⟨e, e'⟩ <;> rcases cls f with f | ⟨f, f'⟩
    · exact k.mem.inj e f hij
    · rw [← hρ j (h.dom f).1]; exact nw e f f'
    · rw [← hρ i (h.dom e).1]; exact (nw f e e').symm
    · rw [← hρ i (h.dom e).1, ← hρ j (h.dom f).1]; exact h.inj e f hij
  · rcases cls e with e | ⟨e, f⟩
    · exact (k.new i b h1 h2 e).imp id ko
    · exact absurd ⟨h1, h2⟩ (hD i (h.dom e).1)
theorem memL_snap {m : Mem} : ∀ {ids : List Nat} {sn : List (Nat × Blk)}, snapA m ids = some sn → sn.map (·.1) = ids ∧ (∀ i b, memL sn i = some b → m i = some b) ∧ ∀ i ∈ ids, (memL sn i).isSome = true
  | [], sn, e => by
    simp only [snapA, Option.some.injEq] at e
    subst e
    exact ⟨rfl, fun _ _ h => (by cases h), fun _ h => (by cases h)⟩
  | j :: l, sn, e => by
    simp only [snapA] at e
    split at e
    · rename_i b hb
      split at e
      · rename_i r hr
        simp only [Option.some.injEq] at e
        subst e
        obtain ⟨h1, h2, h3⟩ := memL_snap hr
        refine ⟨by rw [List.map_cons, h1], fun i c h => ?_, fun i hi => ?_⟩
        · simp only [memL, Mem.put] at h
          cases hij : Nat.beq i j <;> simp only [hij, cond] at h
          · exact h2 _ _ h
          · rw [Nat.eq_of_beq_eq_true hij, hb, h]
        · simp only [memL, Mem.put]
          cases hij : Nat.beq i j <;> simp only [cond]
          · rcases List.mem_cons.1 hi with rfl | hi
            · simp at hij
            · exact h3 i hi
          · rfl
      · cases e
    · cases e
theorem has1_mem {l : List Nat} {x : Nat} (h : has1 l x = true) : x ∈ l := by
  obtain ⟨y, hy, hxy⟩ := List.any_eq_true.1 h
  rw [← Nat.eq_of_beq_eq_true hxy]; exact hy
theorem outLog_ok {m : Mem} {ids : List Nat} {sn out : List (Nat × Blk)} {nx d : Nat} (h : snapA m ids = some sn) (ho : outOK ids nx d out = true) : LogOK (memL sn) nx (nx + d) (outLog sn out) := by
  obtain ⟨h1, h2, h3⟩ := memL_snap h
  intro e he
  rcases List.mem_append.1 he with he | he
  · obtain ⟨x, hx, rfl⟩ := List.mem_map.1 he
    have := List.all_eq_true.1 ho x hx
    rw [Bool.or_eq_true, Bool.and_eq_true] at this
    rcases this with h | ⟨h, h'⟩
    · exact Or.inl (h3 _ (has1_mem h))
    · exact Or.inr ⟨Nat.le_of_ble_eq_true h, by simpa [Nat.blt_eq] using h'⟩
  · obtain ⟨x, hx, rfl⟩ := List.mem_map.1 he
    exact Or.inl (h3 _ (by rw [← h1]; exact List.mem_map_of_mem hx))
theorem LogOK.sub {m m' : Mem} {a b : Nat} {l : Log} (h : LogOK m' a b l) (hs : ∀ i b, m' i = some b → m i = some b) : LogOK m a b l := fun e he => (h e he).imp (fun h => by
  obtain ⟨c, hc⟩ := Option.isSome_iff_exists.1 h
  rw [hs _ _ hc]; rfl) id
theorem sem_some {ev : Operand → Option Value} {o : Oper} (hr : allSome ev o = true) {D : Nat → Prop} {ρ : Nm} {a : Act} (h : EvOK D ρ ev a) : execOp a.eval o = semR ev o ρ := by
  simp only [allSome, Bool.and_eq_true, Bool.not_eq_true'] at hr
  refine execOp_congr o (fun cs b e => by rw [e] at hr; simp [isSel] at hr) fun x hx => ?_
  have h1 := List.all_eq_true.1 hr.2 x (by simpa using hx)
  obtain ⟨v, hv⟩ := Option.isSome_iff_exists.1 h1
  rw [(h x v hv).1, hv]; rfl
theorem memL_put_some {m : Mem} : ∀ (l : List (Nat × Blk)) (i : Nat), m.add (l.map fun e => (e.1, some e.2)) i = match memL l i with | some b => some b | none => m i
  | [], i => rfl
  | e :: l, i => by
    obtain ⟨j, c⟩ := e
    simp only [List.map_cons, Mem.add, memL, Mem.put]
    cases hij : Nat.beq i j <;> simp only [cond]
    exact memL_put_some l i
theorem memL_put_none {m : Mem} : ∀ (l : List (Nat × Blk)) (i : Nat), m.add (l.map fun e => (e.1, (none : Option Blk))) i = match memL l i with | some _ => none | none => m i
  | [], i => rfl
  | e :: l, i => by
    obtain ⟨j, c⟩ := e
    simp only [List.map_cons, Mem.add, memL, Mem.put]
    cases hij : Nat.beq i j <;> simp only [cond]
    exact memL_put_none l i
theorem memL_app : ∀ (a b : List (Nat × Blk)) (i : Nat), memL (a ++ b) i = match memL a i with | some x => some x | none => memL b i
  | [], b, i => rfl
  | e :: a, b, i => by
    obtain ⟨j, c⟩ := e
    simp only [List.cons_append, memL, Mem.put]
    cases hij : Nat.beq i j <;> simp only [cond]
    exact memL_app a b i
theorem memL_filter (p : Nat → Bool) : ∀ (l : List (Nat × Blk)) (i : Nat), memL (l.filter fun e => p e.1) i = cond (p i) (memL l i) none
  | [], i => by cases p i <;> rfl
  | e :: l, i => by
    obtain ⟨j, c⟩ := e
    have ih := memL_filter p l i
    cases hp : p j
    · rw [List.filter_cons_of_neg (by simp [hp]), ih]
      simp only [memL, Mem.put]
      cases hij : Nat.beq i j
      · rfl
      · rw [Nat.eq_of_beq_eq_true hij, hp]; rfl
    · rw [List.filter_cons_of_pos (by simp [hp])]
      simp only [memL, Mem.put]
      cases hij : Nat.beq i j
      · exact ih
      · rw [Nat.eq_of_beq_eq_true hij, hp]; rfl
theorem logF_eq {m : Mem} {ids : List Nat} {sn out : List (Nat × Blk)} (ws : List Nat) (h : snapA m ids = some sn) : m.add (outLog sn (outF sn ws out)) = m.add (logF sn ws out) := by
  obtain ⟨h1, h2, h3⟩ := memL_snap h
  funext i
  unfold outLog logF outF
  rw [← add_append, ← add_append, memL_put_some, memL_put_some, memL_put_none, memL_put_none, memL_app, memL_filter (fun j => !has1 ws j), memL_filter (fun j => has1 ws j)]
  cases memL out i with
  | some b => rfl
  | none =>
    cases hw : has1 ws i
    · simp only [Bool.not_false, cond]
      cases hx : memL sn i with
      | some b => exact (h2 i b hx).symm
      | none => rfl
    · simp only [Bool.not_true, cond]
theorem Aft.logs {D : Nat → Prop} {ρ ρ' : Nm} {m : Mem} {nx nx' : Nat} {w w' : World} {v : Value} {l l' : Log} (e : m.add l = m.add l') (h : Aft P A D ρ m nx w v l nx' ρ' w') : Aft P A D ρ m nx w v l' nx' ρ' w' :=
  ⟨h.same, h.fit, by have := h.mem; rw [e] at this; exact this, h.kept, fun i b h1 h2 h3 => h.new i b h1 h2 (by rw [e]; exact h3)⟩
theorem outF_ok {m : Mem} {ids ws : List Nat} {sn out : List (Nat × Blk)} {nx d : Nat} (h : snapA m ids = some sn) (ho : outOK ws nx d out = true) (hw : ws.all (has1 ids) = true) : outOK ids nx d (outF sn ws out) = true := by
  obtain ⟨h1, _, _⟩ := memL_snap h
  have mem : ∀ x, x ∈ ids → has1 ids x = true := fun x hx => List.any_eq_true.2 ⟨x, hx, by simp⟩
  refine List.all_eq_true.2 fun e he => ?_
  rcases List.mem_append.1 he with he | he
  · have := List.all_eq_true.1 ho e he
    rw [Bool.or_eq_true] at this ⊢
    refine this.imp (fun hx => ?_) id
    obtain ⟨y, hy, hxy⟩ := List.any_eq_true.1 hx
    have hxy : e.1 = y := by first | simpa using hxy | exact (by simpa using hxy : y = e.1).symm
    rw [hxy]
    exact List.all_eq_true.1 hw y hy
  · rw [mem e.1 (by rw [← h1]; exact List.mem_map_of_mem (List.mem_filter.1 he).1)]; rfl
theorem logF_ok {m : Mem} {ids ws : List Nat} {sn out : List (Nat × Blk)} {nx d : Nat} (h : snapA m ids = some sn) (ho : outOK ws nx d out = true) (hw : ws.all (has1 ids) = true) : LogOK m nx (nx + d) (logF sn ws out) := by
  obtain ⟨h1, h2, h3⟩ := memL_snap h
  have some_ : ∀ x, x ∈ ids → (m x).isSome = true := fun x hx => by
    obtain ⟨b, hb⟩ := Option.isSome_iff_exists.1 (h3 x hx)
    rw [h2 x b hb]; rfl
  intro e he
  rcases List.mem_append.1 he with he | he
  · obtain ⟨y, hy, rfl⟩ := List.mem_map.1 he
    have := List.all_eq_true.1 ho y hy
    rw [Bool.or_eq_true, Bool.and_eq_true] at this
    rcases this with hx | ⟨hx, hx'⟩
    · obtain ⟨z, hz, hyz⟩ := List.any_eq_true.1 hx
      have hyz : y.1 = z := by first | simpa using hyz | exact (by simpa using hyz : z = y.1).symm
      have hz2 := List.all_eq_true.1 hw z hz
      obtain ⟨u, hu, hzu⟩ := List.any_eq_true.1 hz2
      have hzu : z = u := by first | simpa using hzu | exact (by simpa using hzu : u = z).symm
      exact Or.inl (some_ _ (by show y.1 ∈ ids; rw [hyz, hzu]; exact hu))
    · exact Or.inr ⟨Nat.le_of_ble_eq_true hx, by simpa [Nat.blt_eq] using hx'⟩
  · obtain ⟨y, hy, rfl⟩ := List.mem_map.1 he
    exact Or.inl (some_ _ (by show y.1 ∈ ids; rw [← h1]; exact List.mem_map_of_mem (List.mem_filter.1 hy).1))
theorem opStep_S {call : CallF} (hc : CallS P A call) {o : Oper} {ev : Operand → Option Value} {m : Mem} {nx : Nat} {ts : Ts} {out : Out} (h : opStep P call o ev m nx ts = some out) :
    OpS P A o ev m nx ts out.ts out.v out.log out.nx := by
  unfold opStep at h
  split at h
  · rename_i v r hp
    cases hb : (allReal ev o && real v) <;> simp only [hb, cond] at h
    · cases h
    · simp only [Option.some.injEq] at h; subst h
      simp only [Bool.and_eq_true] at hb
      refine ⟨Nat.le_refl _, fun e he => (by cases he), (Sound.pop hp (.s (semOf ev o))).mono fun k D ρ a w K Q he hm hd hk => ?_⟩
      refine oper_val ?_ (hk ρ w (Aft.refl hm (Fit.real hb.2)))
      rw [sem_real hb.1 he, ren_real hb.2]
      exact k w hm.s
  · rename_i v r hp
    split at h
    · rename_i f args ats ho
      split at h
      · rename_i vs hv
        cases hb : (vs.all real && real v && hasBody P f) <;> simp only [hb, cond] at h
        · cases h
        · simp only [Option.some.injEq] at h; subst h
          simp only [Bool.and_eq_true] at hb
          obtain ⟨⟨b1, b2⟩, b3⟩ := hb
          refine ⟨Nat.le_refl _, fun e he => (by cases he), (Sound.pop hp (.c f vs)).mono fun k D ρ a w K Q he hm hd hk => ?_⟩
          obtain ⟨e1, e2⟩ := evL_spec he hv
          unfold Oper.wp
          rw [call_run ho b3 e1 w, ren_list_real b1]
          refine (k w hm.s).mono ?_
          rintro e w' ⟨rfl, hw⟩
          have := hk ρ w' (Aft.below hm hw (Fit.real b2))
          rwa [ren_real b2] at this
      · cases h
    · cases h
  · rename_i ids v r hp
    split at h
    · rename_i f args ats ho
      split at h
      · rename_i vs hv
        split at h
        · rename_i sn hsn
          cases hb : (real v && hasBody P f) <;> simp only [hb, cond] at h
          · cases h
          · simp only [Option.some.injEq] at h; subst h
            simp only [Bool.and_eq_true] at hb
            obtain ⟨b2, b3⟩ := hb
            refine ⟨Nat.le_refl _, fun e he => (by cases he), (Sound.pop hp (.cr f vs sn)).mono fun k D ρ a w K Q he hm hd hk => ?_⟩
            obtain ⟨e1, e2⟩ := evL_spec he hv
            unfold Oper.wp
            rw [call_run ho b3 e1 w]
            refine (k ρ w hm.s (snapA_spec hm hsn)).mono ?_
            rintro e w' ⟨rfl, hw⟩
            have := hk ρ w' (Aft.below hm hw (Fit.real b2))
            rwa [ren_real b2] at this
        · cases h
      · cases h
    · cases h
  · rename_i y r hp
    split at h
    · rename_i v l n hv
      simp only [Option.some.injEq] at h; subst h
      obtain ⟨h1, h2, h3⟩ := opVal_S (A := A) hv ts
      refine ⟨h1, h2, (Sound.pop hp (.v v)).mono fun k => ?_⟩
      have k : v = y := k
      subst k
      obtain ⟨l', ⟨e1, _⟩, e2⟩ := h3
      have : l' = [] := by
        have := congrArg List.length e1
        simp at this; exact this
      subst this
      exact e2 fun _ hp => by cases hp
    · cases h
  · rename_i ids v out d r hp
    split at h
    · rename_i sn hsn
      cases hb : outOK ids nx d out <;> simp only [hb, cond] at h
      · cases h
      · split at h
        · rename_i f vs hcal
          simp only [Option.some.injEq] at h; subst h
          have hl := outLog_ok hsn hb
          obtain ⟨h1, h2, h3⟩ := memL_snap hsn
          refine ⟨Nat.le_add_right _ _, hl.sub h2, (Sound.pop hp (.cm f vs sn nx (hasBody P f))).mono fun k D ρ a w K Q he hm hd hk => ?_⟩
          obtain ⟨hbd, k⟩ := k
          have hk' : ∀ ρ' w', Aft P A D ρ (memL sn) nx w v (outLog sn out) (nx + d) ρ' w' → K (a.put o.dst (ren ρ' v)) w' := fun ρ' w' ha => hk ρ' w' (ha.frame hm h2 hl hd)
          unfold calleeA at hcal
          split at hcal
          · rename_i g args ats ho
            split at hcal
            · rename_i us hv
              simp only [Option.some.injEq, Prod.mk.injEq] at hcal
              obtain ⟨rfl, rfl⟩ := hcal
              obtain ⟨e1, e2⟩ := evL_spec he hv
              unfold Oper.wp
              rw [call_run ho hbd e1 w]
              refine (k D ρ w (hm.sub h2) e2 hd).mono ?_
              rintro e w' ⟨ρ', rfl, ha⟩
              exact hk' ρ' w' ha
            · cases hcal
          · rename_i t args ats ho
            split at hcal
            · rename_i g xs ys ht
              split at hcal
              · rename_i us hv
                cases hb2 : (xs.toList.all flat && ys.toList.all flat) <;> simp only [hb2, cond] at hcal
                · cases hcal
                · simp only [Option.some.injEq, Prod.mk.injEq] at hcal
                  obtain ⟨rfl, rfl⟩ := hcal
                  simp only [Bool.and_eq_true] at hb2
                  exact closure_wp (Z := fun ρ' v w' => Aft P A D ρ (memL sn) nx w v (outLog sn out) (nx + d) ρ' w') ho ht hv hbd hb2.1 hb2.2 he (fun hf => k D ρ w (hm.sub h2) hf hd) hk'
              · cases hcal
            · cases hcal
          · cases hcal
        · cases hb2 : allSome ev o <;> simp only [hb2, cond] at h
          · cases h
          · simp only [Option.some.injEq] at h; subst h
            have hl := outLog_ok hsn hb
            obtain ⟨h1, h2, h3⟩ := memL_snap hsn
            refine ⟨Nat.le_add_right _ _, hl.sub h2, (Sound.pop hp (.sm (semR ev o) sn nx)).mono fun k D ρ a w K Q he hm hd hk => ?_⟩
            unfold Oper.wp
            rw [sem_some hb2 he]
            exact k D ρ w o a K Q (hm.sub h2) hd fun ρ' w' ha => hk ρ' w' (ha.frame hm h2 hl hd)
    · cases h
  · rename_i ids ws v out d r hp
    split at h
    · rename_i sn hsn
      cases hb0 : (outOK ws nx d out && ws.all (has1 ids)) <;> simp only [hb0, cond] at h
      · cases h
      simp only [Bool.and_eq_true] at hb0
      have hb := outF_ok hsn hb0.1 hb0.2
      split at h
      · rename_i f vs hcal
        simp only [Option.some.injEq] at h; subst h
        have hl := outLog_ok hsn hb
        obtain ⟨h1, h2, h3⟩ := memL_snap hsn
        refine ⟨Nat.le_add_right _ _, logF_ok hsn hb0.1 hb0.2, (Sound.pop hp (.cm f vs sn nx (hasBody P f))).mono fun k D ρ a w K Q he hm hd hk => ?_⟩
        obtain ⟨hbd, k⟩ := k
        have hk' : ∀ ρ' w', Aft P A D ρ (memL sn) nx w v (outLog sn (outF sn ws out)) (nx + d) ρ' w' → K (a.put o.dst (ren ρ' v)) w' := fun ρ' w' ha => hk ρ' w' ((ha.frame hm h2 hl hd).logs (logF_eq ws hsn))
        unfold calleeA at hcal
        split at hcal
        · rename_i g args ats ho
          split at hcal
          · rename_i us hv
            simp only [Option.some.injEq, Prod.mk.injEq] at hcal
            obtain ⟨rfl, rfl⟩ := hcal
            obtain ⟨e1, e2⟩ := evL_spec he hv
            unfold Oper.wp
            rw [call_run ho hbd e1 w]
            refine (k D ρ w (hm.sub h2) e2 hd).mono ?_
            rintro e w' ⟨ρ', rfl, ha⟩
            exact hk' ρ' w' ha
          · cases hcal
        · rename_i t args ats ho
          split at hcal
          · rename_i g xs ys ht
            split at hcal
            · rename_i us hv
              cases hb2 : (xs.toList.all flat && ys.toList.all flat) <;> simp only [hb2, cond] at hcal
              · cases hcal
              · simp only [Option.some.injEq, Prod.mk.injEq] at hcal
                obtain ⟨rfl, rfl⟩ := hcal
                simp only [Bool.and_eq_true] at hb2
                exact closure_wp (Z := fun ρ' v w' => Aft P A D ρ (memL sn) nx w v (outLog sn (outF sn ws out)) (nx + d) ρ' w') ho ht hv hbd hb2.1 hb2.2 he (fun hf => k D ρ w (hm.sub h2) hf hd) hk'
            · cases hcal
          · cases hcal
        · cases hcal
      · cases hb2 : allSome ev o <;> simp only [hb2, cond] at h
        · cases h
        · simp only [Option.some.injEq] at h; subst h
          have hl := outLog_ok hsn hb
          obtain ⟨h1, h2, h3⟩ := memL_snap hsn
          refine ⟨Nat.le_add_right _ _, logF_ok hsn hb0.1 hb0.2, (Sound.pop hp (.sm (semR ev o) sn nx)).mono fun k D ρ a w K Q he hm hd hk => ?_⟩
          unfold Oper.wp
          rw [sem_some hb2 he]
          exact k D ρ w o a K Q (hm.sub h2) hd fun ρ' w' ha => hk ρ' w' ((ha.frame hm h2 hl hd).logs (logF_eq ws hsn))
    · cases h
  · exact opBase_S hc h
end Rx
end Go.Proofs.YtilfcikhipadpaaGreatDoor
end

section
/- A run reckoned by the kernel: one operation in its place, and those that come in their order. No program. -/
set_option linter.unusedVariables false
set_option linter.unusedSimpArgs false
namespace Go.Proofs.YtilfcikhipadpaaGreatDoor
open Go.RowKit Go.Lib
namespace Rx
variable {P : Program} {A : Amb}

/-- the frame holds what the reckoning says, at the slots of T -/
def FrOK (D : Nat → Prop) (ρ : Nm) (T : Nat → Prop) (e : Env) (a : Act) : Prop := ∀ t u, T t → e t = some u → a.tmps[t]? = some (ren ρ u) ∧ Fit D u
theorem eval_tmp {a : Act} {t : Nat} {v : Value} (h : a.tmps[t]? = some v) : a.eval (.tmp t) = v := by simp [Act.eval, h]
/-- an evaluation that looks at T alone -/
def Looks (T : Nat → Prop) (e : Env) (ev : Operand → Option Value) : Prop := ∀ x u, ev x = some u → evalA e x = some u ∧ ∀ t, x = .tmp t → T t
theorem Looks.all (e : Env) : Looks (fun _ => True) e (evalA e) := fun x u h => ⟨h, fun _ _ => trivial⟩
theorem Looks.restr (o : Oper) (e : Env) : Looks (fun t => Operand.tmp t ∈ o.op.operands.toList) e (restr o e) := fun x u h => by
  cases x with
  | tmp t =>
    simp only [Rx.restr] at h
    cases hb : o.op.operands.toList.any (isTmp t) <;> simp only [hb, cond] at h
    · cases h
    · refine ⟨h, fun s hs => ?_⟩
      cases hs
      obtain ⟨y, hy, hy2⟩ := List.any_eq_true.1 hb
      unfold isTmp at hy2
      split at hy2
      · rw [← Nat.eq_of_beq_eq_true hy2]; exact hy
      · cases hy2
  | _ => exact ⟨h, fun _ h => by cases h⟩
theorem Looks.ev {D : Nat → Prop} {ρ : Nm} {T : Nat → Prop} {e : Env} {ev : Operand → Option Value} {a : Act} (hl : Looks T e ev) (h : FrOK D ρ T e a) : EvOK D ρ ev a := fun x u hx => by
  obtain ⟨h1, h2⟩ := hl x u hx
  cases x with
  | tmp t =>
    obtain ⟨h3, h4⟩ := h t u (h2 t rfl) h1
    exact ⟨eval_tmp h3, h4⟩
  | const v =>
    simp only [evalA] at h1
    cases hr : real v <;> simp only [hr, cond] at h1
    · cases h1
    · simp only [Option.some.injEq] at h1; subst h1
      exact ⟨(ren_real hr).symm, Fit.real hr⟩
  | global g =>
    simp only [evalA, Option.some.injEq] at h1; subst h1
    exact ⟨rfl, Fit.real rfl⟩
  | func f =>
    simp only [evalA, Option.some.injEq] at h1; subst h1
    exact ⟨rfl, Fit.real rfl⟩

theorem wanted_S {ops : Array Oper} {env : Env} {o : Oper} {ts ts' : Ts} {b : Bool} (h : wantedA ops env o ts = some (b, ts')) :
    Sound P A ts ts' (∀ (D : Nat → Prop) (ρ : Nm) (T : Nat → Prop) (a : Act), FrOK D ρ T env a → (∀ d, o.guard.isSome = true → d ∈ (match o.guard with | some (g, _) => ((ops[g]?).bind (·.dst)).toList | none => []) → T d) → Region.wanted o (yielded ops a.tmps) = b) := by
  unfold wantedA at h
  split at h
  · rename_i hg
    simp only [Option.some.injEq, Prod.mk.injEq] at h
    obtain ⟨rfl, rfl⟩ := h
    exact Sound.refl fun D ρ T a _ _ => by simp [Region.wanted, hg]
  · rename_i j want hg
    split at h
    · cases h
    · rename_i d hd
      split at h
      · rename_i b' hb
        split at h
        rename_i t ts1 hgr
        simp only [Option.some.injEq, Prod.mk.injEq] at h
        obtain ⟨rfl, rfl⟩ := h
        refine (Sound.grd (P := P) (A := A) hgr).mono fun hbt D ρ T a hf hT => ?_
        subst hbt
        have h1 := (hf d _ (hT d (by simp [hg]) (by simp [hg, hd])) hb).1
        have h2 : yielded ops a.tmps j = some b' := by
          unfold yielded
          rw [hd]
          simp only [Option.bind_some]
          rw [h1]
          rfl
        simp only [Region.wanted, hg, h2]
        cases want <;> cases b' <;> rfl
      · rename_i vs hb
        simp only [Option.some.injEq, Prod.mk.injEq] at h
        obtain ⟨rfl, rfl⟩ := h
        refine Sound.refl fun D ρ T a hf hT => ?_
        have h1 := (hf d _ (hT d (by simp [hg]) (by simp [hg, hd])) hb).1
        have h2 : yielded ops a.tmps j = none := by
          unfold yielded
          rw [hd]
          simp only [Option.bind_some]
          rw [h1]
          rfl
        simp only [Region.wanted, hg, h2]
        rfl
      · cases h

def putE (e : Env) (d : Option Tmp) (v : Value) : Env := match d with | some d => e.put d v | none => e
/-- what an operation leaves: the slot, the log -/
structure OpRes (o : Oper) (view : Mem) (st : St) (v : Value) (l : Log) (st' : St) : Prop where
  nx : st.nx ≤ st'.nx
  n : st'.n = st.n
  log : LogOK view st.nx st'.nx l
  mem : st'.mem = st.mem.add l
  logs : st'.log = l ++ st.log
  env : st'.env = putE st.env o.dst v
  lt : ∀ d, o.dst = some d → d < st.n
theorem put_spec {st st' : St} {d : Option Tmp} {v : Value} (h : st.put d v = some st') : st' = { st with env := putE st.env d v } ∧ ∀ t, d = some t → t < st.n := by
  unfold St.put at h
  split at h
  · simp only [Option.some.injEq] at h; subst h
    exact ⟨rfl, fun _ h => by cases h⟩
  · rename_i t
    cases hb : Nat.blt t st.n <;> simp only [hb, cond] at h
    · cases h
    · simp only [Option.some.injEq] at h; subst h
      refine ⟨rfl, fun s hs => ?_⟩
      cases hs
      simpa [Nat.blt_eq] using hb
theorem runOp_S {call : CallF} (hc : CallS P A call) {ops : Array Oper} {o : Oper} {ev : Operand → Option Value} {view : Mem} {st st' : St} {l : Log} (h : runOp P call ops o ev view st = some (l, st')) {T : Nat → Prop} (hl : Looks T st.env ev)
    (hT : ∀ d, d ∈ (match o.guard with | some (g, _) => ((ops[g]?).bind (·.dst)).toList | none => []) → T d) :
    ∃ v, OpRes o view st v l st' ∧ Sound P A st.ts st'.ts (∀ (i : Nat) (D : Nat → Prop) (ρ : Nm) (a : Act) (w : World) (K : Act → World → Prop) (Q : Exit → Act → World → Prop), ops[i]? = some o →
      FrOK D ρ T st.env a → MemOK P A D ρ view w → (∀ i, D i → ¬ (st.nx ≤ i ∧ i < st'.nx)) → (∀ ρ' w', Aft P A D ρ view st.nx w v l st'.nx ρ' w' → K (a.put o.dst (ren ρ' v)) w') → wpOp P ops Q i K a w) := by
  unfold runOp at h
  split at h
  · rename_i ts hw
    split at h
    · rename_i v l' nx ts' hs
      split at h
      · rename_i st1 hp
        simp only [Option.some.injEq, Prod.mk.injEq] at h
        obtain ⟨rfl, rfl⟩ := h
        obtain ⟨rfl, hlt⟩ := put_spec hp
        obtain ⟨h1, h2, h3⟩ := opStep_S hc hs
        refine ⟨v, ⟨h1, rfl, h2, rfl, rfl, rfl, hlt⟩, ?_⟩
        refine Sound.bind (wanted_S hw) (Sound.like (ts' := ts') (h3.mono fun k hwant i D ρ a w K Q hi hf hm hd hk => ?_) ⟨rfl, rfl⟩ ⟨rfl, rfl⟩)
        unfold wpOp
        rw [hi]
        show if Region.wanted o (yielded ops a.tmps) = true then _ else _
        rw [if_pos (hwant D ρ T a hf fun d _ hd => hT d hd)]
        exact Or.inl (k D ρ a w K Q (hl.ev hf) hm hd hk)
      · cases h
    · cases h
  · rename_i ts hw
    split at h
    · rename_i st1 hp
      simp only [Option.some.injEq, Prod.mk.injEq] at h
      obtain ⟨rfl, rfl⟩ := h
      obtain ⟨rfl, hlt⟩ := put_spec hp
      refine ⟨undef, ⟨Nat.le_refl _, rfl, fun e he => (by cases he), rfl, rfl, rfl, hlt⟩, ?_⟩
      refine Sound.like (ts' := ts) ((wanted_S (P := P) (A := A) hw).mono fun hwant i D ρ a w K Q hi hf hm hd hk => ?_) ⟨rfl, rfl⟩ ⟨rfl, rfl⟩
      unfold wpOp
      rw [hi]
      show if Region.wanted o (yielded ops a.tmps) = true then _ else _
      rw [if_neg (by rw [hwant D ρ T a hf fun d _ hd => hT d hd]; exact Bool.false_ne_true)]
      exact hk ρ w (Aft.refl hm (Fit.real rfl))
    · cases h
  · cases h

/-! ### states -/
structure StOK (P : Program) (A : Amb) (D : Nat → Prop) (ρ : Nm) (st : St) (a : Act) (w : World) : Prop where
  fr : FrOK D ρ (fun _ => True) st.env a
  size : a.tmps.size = st.n
  defers : a.defers = []
  mem : MemOK P A D ρ st.mem w
/-- what is behind a state, as far as the reckoning goes -/
structure Ext (st st' : St) : Prop where
  nx : st.nx ≤ st'.nx
  n : st'.n = st.n
  mem : ∃ l, st'.mem = st.mem.add l ∧ LogOK st.mem st.nx st'.nx l ∧ st'.log = l ++ st.log
structure StAft (P : Program) (A : Amb) (D : Nat → Prop) (ρ : Nm) (st : St) (w : World) (st' : St) (ρ' : Nm) (a' : Act) (w' : World) : Prop where
  same : ∀ i, ¬ (st.nx ≤ i ∧ i < st'.nx) → ρ' i = ρ i
  ok : StOK P A (ext D st.nx st'.nx) ρ' st' a' w'
  kept : Kept (owns ρ st.mem) w w'
  new : ∀ i b, st.nx ≤ i → i < st'.nx → st'.mem i = some b → w.heap.size ≤ (ρ' i).1 ∨ owns ρ st.mem (ρ' i).1
theorem StOK.mono {D E : Nat → Prop} {ρ : Nm} {st : St} {a : Act} {w : World} (h : StOK P A D ρ st a w) (he : ∀ i, D i → E i) : StOK P A E ρ st a w :=
  ⟨fun t u ht hu => ⟨(h.fr t u ht hu).1, (h.fr t u ht hu).2.mono he⟩, h.size, h.defers, h.mem.mono he⟩
theorem Ext.refl (st : St) : Ext st st := ⟨Nat.le_refl _, rfl, [], rfl, fun _ h => (by cases h), rfl⟩
theorem LogOK.more {m m' : Mem} {a b c d : Nat} {l : Log} (h : LogOK m a b l) (hm : ∀ i, (m i).isSome = true → (m' i).isSome = true ∨ (c ≤ i ∧ i < d)) (h1 : c ≤ a) (h2 : b ≤ d) : LogOK m' c d l := fun e he => by
  rcases h e he with h | h
  · exact hm _ h
  · exact Or.inr ⟨by omega, by omega⟩
theorem add_isSome {m : Mem} {a b : Nat} {l : Log} (h : LogOK m a b l) (i : Nat) (k : (m.add l i).isSome = true) : (m i).isSome = true ∨ (a ≤ i ∧ i < b) := by
  obtain ⟨c, hc⟩ := Option.isSome_iff_exists.1 k
  exact add_dom h hc
theorem Ext.trans {a b c : St} (h : Ext a b) (k : Ext b c) : Ext a c := by
  obtain ⟨h1, h2, l, h3, h4, h5⟩ := h
  obtain ⟨k1, k2, l', k3, k4, k5⟩ := k
  refine ⟨Nat.le_trans h1 k1, k2.trans h2, l' ++ l, by rw [k3, h3, add_append], fun e he => ?_, by rw [k5, h5, List.append_assoc]⟩
  rcases List.mem_append.1 he with he | he
  · refine (k4.more (m' := a.mem) (c := a.nx) (d := c.nx) (fun i hi => ?_) h1 (Nat.le_refl _)) e he
    rw [h3] at hi
    rcases add_isSome h4 i hi with h | h
    · exact Or.inl h
    · exact Or.inr ⟨h.1, Nat.lt_of_lt_of_le h.2 k1⟩
  · exact (h4.more (fun i hi => Or.inl hi) (Nat.le_refl _) k1) e he
theorem StAft.refl {D : Nat → Prop} {ρ : Nm} {st : St} {a : Act} {w : World} (h : StOK P A D ρ st a w) : StAft P A D ρ st w st ρ a w :=
  ⟨fun _ _ => rfl, h.mono fun _ => Or.inl, Kept.refl _ _, fun _ _ h1 h2 => by omega⟩
theorem ext_disj {D : Nat → Prop} {a b c : Nat} (h : ∀ i, D i → ¬ (a ≤ i ∧ i < c)) (h1 : a ≤ b) : ∀ i, ext D a b i → ¬ (b ≤ i ∧ i < c) := fun i hi k => by
  rcases hi with hi | hi
  · exact h i hi ⟨by omega, k.2⟩
  · omega
theorem StAft.trans {D : Nat → Prop} {ρ ρ1 ρ2 : Nm} {s0 s1 s2 : St} {a1 a2 : Act} {w w1 w2 : World} (e1 : Ext s0 s1) (e2 : Ext s1 s2) (hm : MemOK P A D ρ s0.mem w) (hD : ∀ i, D i → ¬ (s0.nx ≤ i ∧ i < s2.nx))
    (h : StAft P A D ρ s0 w s1 ρ1 a1 w1) (k : StAft P A (ext D s0.nx s1.nx) ρ1 s1 w1 s2 ρ2 a2 w2) : StAft P A D ρ s0 w s2 ρ2 a2 w2 := by
  have n1 := e1.nx; have n2 := e2.nx
  have hin : ∀ {i : Nat} {b : Blk}, s0.mem i = some b → ¬ (s0.nx ≤ i ∧ i < s2.nx) := fun e => hD _ (hm.dom e).1
  obtain ⟨l1, m1, o1, _⟩ := e1.mem
  obtain ⟨l2, m2, o2, _⟩ := e2.mem
  refine ⟨fun i hi => (k.same i (by omega)).trans (h.same i (by omega)), k.ok.mono fun i hi => ?_, Kept.trans h.kept k.kept (fun _ _ h => h) (fun b hb hk => ?_), fun i b h1 h2 hi => ?_⟩
  · rcases hi with (hi | hi) | hi
    · exact Or.inl hi
    · exact Or.inr ⟨hi.1, by omega⟩
    · exact Or.inr ⟨by omega, hi.2⟩
  · obtain ⟨i, c, hi, rfl⟩ := hk
    rw [m1] at hi
    rcases add_dom o1 hi with h0 | h0
    · obtain ⟨c', hc'⟩ := Option.isSome_iff_exists.1 h0
      have := hin hc'
      exact ⟨i, c', hc', by rw [h.same i (by omega)]⟩
    · rcases h.new i c h0.1 h0.2 (by rw [m1]; exact hi) with h9 | h9
      · omega
      · exact h9
  · by_cases hlt : i < s1.nx
    · have hi2 := hi
      rw [m2] at hi2
      rcases add_dom o2 hi2 with h0 | h0
      · obtain ⟨c', hc'⟩ := Option.isSome_iff_exists.1 h0
        have := h.new i c' h1 hlt hc'
        rwa [k.same i (by omega)]
      · omega
    · rcases k.new i b (by omega) h2 hi with h9 | ⟨j, c', hj, hje⟩
      · have := h.kept.size
        exact Or.inl (by omega)
      · rw [hje]
        have hj2 := hj
        rw [m1] at hj2
        rcases add_dom o1 hj2 with h0 | h0
        · obtain ⟨c2, hc2⟩ := Option.isSome_iff_exists.1 h0
          have := hin hc2
          exact Or.inr ⟨j, c2, hc2, by rw [h.same j (by omega)]⟩
        · exact h.new j c' h0.1 h0.2 hj

/-- one operation, in the order of the text -/
theorem OpRes.ext {o : Oper} {st st' : St} {v : Value} {l : Log} (h : OpRes o st.mem st v l st') : Ext st st' := ⟨h.nx, h.n, l, h.mem, h.log, h.logs⟩
theorem put_size (a : Act) (d : Option Tmp) (v : Value) : (a.put d v).tmps.size = a.tmps.size := by cases d <;> simp [Act.put]
theorem put_defers_ (a : Act) (d : Option Tmp) (v : Value) : (a.put d v).defers = a.defers := by cases d <;> rfl
theorem put_get {a : Act} {d t : Nat} {v : Value} (h : d < a.tmps.size) : (a.put (some d) v).tmps[t]? = if t = d then some v else a.tmps[t]? := by
  simp only [Act.put]
  by_cases e : t = d
  · subst e; simp [h]
  · rw [if_neg e, Array.getElem?_setIfInBounds_ne (fun h => e h.symm)]
theorem OpRes.aft {D : Nat → Prop} {ρ ρ' : Nm} {o : Oper} {st st' : St} {v : Value} {l : Log} {a : Act} {w w' : World} (h : OpRes o st.mem st v l st') (hs : StOK P A D ρ st a w) (hD : ∀ i, D i → ¬ (st.nx ≤ i ∧ i < st'.nx)) (k : Aft P A D ρ st.mem st.nx w v l st'.nx ρ' w') :
    StAft P A D ρ st w st' ρ' (a.put o.dst (ren ρ' v)) w' := by
  have old : ∀ {u : Value}, Fit D u → ren ρ' u = ren ρ u := fun hu => hu ρ' ρ fun i hi => k.same i (hD i hi)
  refine ⟨k.same, ⟨fun t u _ hu => ?_, by rw [put_size, hs.size, h.n], by rw [put_defers_]; exact hs.defers, by rw [h.mem]; exact k.mem⟩, k.kept, fun i b h1 h2 hi => k.new i b h1 h2 (by rw [← h.mem]; exact hi)⟩
  rw [h.env] at hu
  cases hd : o.dst with
  | none =>
    rw [hd] at hu
    obtain ⟨h1, h2⟩ := hs.fr t u trivial hu
    exact ⟨by rw [old h2]; exact h1, h2.mono fun _ => Or.inl⟩
  | some d =>
    rw [hd] at hu
    have hlt : d < a.tmps.size := by rw [hs.size]; exact h.lt d hd
    rw [put_get hlt]
    simp only [putE, Env.put] at hu
    cases hb : Nat.beq t d <;> simp only [hb, cond] at hu
    · rw [if_neg (Nat.ne_of_beq_eq_false hb)]
      obtain ⟨h1, h2⟩ := hs.fr t u trivial hu
      exact ⟨by rw [old h2]; exact h1, h2.mono fun _ => Or.inl⟩
    · rw [if_pos (Nat.eq_of_beq_eq_true hb)]
      simp only [Option.some.injEq] at hu
      subst hu
      exact ⟨rfl, k.fit⟩

/-- c is run from st and comes to st' -/
def StepS (P : Program) (A : Amb) (c : (Act → World → Prop) → Act → World → Prop) (st st' : St) : Prop :=
  Ext st st' ∧ Sound P A st.ts st'.ts (∀ (D : Nat → Prop) (ρ : Nm) (a : Act) (w : World) (K : Act → World → Prop), StOK P A D ρ st a w → (∀ i, D i → ¬ (st.nx ≤ i ∧ i < st'.nx)) →
    (∀ ρ' a' w', StAft P A D ρ st w st' ρ' a' w' → K a' w') → c K a w)
theorem StepS.bind {c d e : (Act → World → Prop) → Act → World → Prop} {s0 s1 s2 : St} (h : StepS P A c s0 s1) (k : StepS P A d s1 s2) (hcd : ∀ K a w, c (d K) a w → e K a w) : StepS P A e s0 s2 := by
  obtain ⟨h1, h2⟩ := h
  obtain ⟨k1, k2⟩ := k
  refine ⟨h1.trans k1, h2.bind (k2.mono fun k' h' D ρ a w K hs hD hk => hcd K a w (h' D ρ a w (d K) hs (fun i hi => fun ⟨x, y⟩ => hD i hi ⟨x, by have := k1.nx; omega⟩) fun ρ1 a1 w1 h3 => ?_))⟩
  exact k' _ ρ1 a1 w1 K h3.ok (ext_disj hD h1.nx) fun ρ2 a2 w2 h4 => hk ρ2 a2 w2 (StAft.trans h1 k1 hs.mem hD h3 h4)
theorem runSeq_S {call : CallF} (hc : CallS P A call) {ops : Array Oper} {Q : Exit → Act → World → Prop} : ∀ (os : List Oper) (i : Nat) (st st' : St), ops.toList.drop i = os → runSeq P call ops os st = some st' →
    StepS P A (fun K a w => ∀ Q : Exit → Act → World → Prop, (∀ a w, K a w → Q .normal a w) → wpOps P ops Q (List.range' i os.length) a w) st st'
  | [], i, st, st', _, h => by
    simp only [runSeq, Option.some.injEq] at h
    subst h
    exact ⟨Ext.refl _, Sound.refl fun D ρ a w K hs hD hk Q hq => hq a w (hk ρ a w (StAft.refl hs))⟩
  | o :: os, i, st, st', hd, h => by
    simp only [runSeq] at h
    split at h
    · rename_i l st1 h1
      have hi : ops[i]? = some o := by
        have : (ops.toList.drop i)[0]? = some o := by rw [hd]; rfl
        simpa using this
      have hd' : ops.toList.drop (i + 1) = os := by
        rw [← List.drop_drop, hd]; rfl
      obtain ⟨v, hr, hs⟩ := runOp_S hc h1 (Looks.all st.env) (fun _ _ => trivial)
      have k := runSeq_S hc (Q := Q) os (i + 1) st1 st' hd' h
      refine StepS.bind (c := fun K a w => ∀ Q : Exit → Act → World → Prop, wpOp P ops Q i K a w) (s1 := st1) ⟨hr.ext, hs.mono fun hs D ρ a w K ho hD hk Q => ?_⟩ k (fun K a w h Q hq => ?_)
      · exact hs i D ρ a w K Q hi ho.fr ho.mem hD fun ρ' w' ha => hk ρ' _ w' (hr.aft ho hD ha)
      · show wpOps P ops Q (i :: List.range' (i + 1) os.length) a w
        rw [wpOps_cons]
        exact wpOp_mono (fun a w h => h Q hq) (h Q)
    · cases h
end Rx
end Go.Proofs.YtilfcikhipadpaaGreatDoor
end

section
/- A run reckoned by the kernel: regions that draw their order. No program. -/
set_option linter.unusedVariables false
set_option linter.unusedSimpArgs false
namespace Go.Proofs.YtilfcikhipadpaaGreatDoor
open Go.RowKit Go.Lib
namespace Rx
variable {P : Program} {A : Amb}

theorem beside_mem {b : Nat} : ∀ (l : List Seg) (j : Nat) (x : Seg), x ∈ beside b j l ↔ ∃ k, l[k]? = some x ∧ Nat.testBit b (j + k) = false
  | [], j, x => by simp [beside]
  | y :: l, j, x => by
    simp only [beside]
    cases hb : Nat.testBit b j <;> simp only [cond]
    · rw [List.mem_cons, beside_mem l (j + 1) x]
      constructor
      · rintro (rfl | ⟨k, h1, h2⟩)
        · exact ⟨0, rfl, hb⟩
        · exact ⟨k + 1, by simpa using h1, by rw [← h2]; congr 1; omega⟩
      · rintro ⟨k, h1, h2⟩
        cases k with
        | zero => left; simpa using h1.symm
        | succ k => right; exact ⟨k, by simpa using h1, by rw [← h2]; congr 1; omega⟩
    · rw [beside_mem l (j + 1) x]
      constructor
      · rintro ⟨k, h1, h2⟩
        exact ⟨k + 1, by simpa using h1, by rw [← h2]; congr 1; omega⟩
      · rintro ⟨k, h1, h2⟩
        cases k with
        | zero => simp only [Nat.add_zero] at h2; rw [hb] at h2; cases h2
        | succ k => exact ⟨k, by simpa using h1, by rw [← h2]; congr 1; omega⟩
theorem mask_spec {bs : List Nat} {j : Nat} : ∀ {es : List Edge}, Nat.testBit (maskOf bs es) j = true → ∃ e ∈ es, Region.binds .any e = true ∧ (e.on = j ∨ Nat.testBit (bs.getD e.on 0) j = true)
  | [], h => by simp [maskOf] at h
  | e :: es, h => by
    simp only [maskOf] at h
    cases hb : Region.binds .any e <;> simp only [hb, cond] at h
    · obtain ⟨x, h1, h2⟩ := mask_spec h
      exact ⟨x, by simp [h1], h2⟩
    · rw [Nat.testBit_or, Nat.testBit_or, Bool.or_eq_true, Bool.or_eq_true] at h
      rcases h with (h | h) | h
      · exact ⟨e, by simp, hb, Or.inl (by rw [Nat.testBit_two_pow] at h; simpa using h)⟩
      · exact ⟨e, by simp, hb, Or.inr h⟩
      · obtain ⟨x, h1, h2⟩ := mask_spec h
        exact ⟨x, by simp [h1], h2⟩
theorem early_spec {i : Nat} : ∀ {es : List Edge}, early i es = true → ∀ e ∈ es, Region.binds .any e = true → e.on < i
  | [], _, e, h, _ => by cases h
  | x :: es, h, e, he, hb => by
    simp only [early] at h
    rcases List.mem_cons.1 he with rfl | he
    · rw [hb] at h
      simp only [cond, Bool.and_eq_true] at h
      simpa [Nat.blt_eq] using h.1
    · cases hx : Region.binds .any x <;> simp only [hx, cond] at h
      · exact early_spec h e he hb
      · simp only [Bool.and_eq_true] at h
        exact early_spec h.2 e he hb

/-- what a reckoning of such a region consists of -/
structure Dat (P : Program) (call : CallF) (ops : Array Oper) (lo n : Nat) (O : Nat → Oper) (s : Nat → St) (L : Nat → Log) (B : Nat → Nat) (G : Nat → Seg) : Prop where
  o : ∀ i, lo ≤ i → i < n → ops.toList[i]? = some (O i)
  b : ∀ i, lo ≤ i → i < n → B i = maskOf ((List.range i).map B) (O i).after.toList
  g : ∀ i, lo ≤ i → i < n → G i = ⟨O i, (L i).map (·.1), ((L i).map (·.1)).filter (fun x => !(Nat.ble (s i).nx x && Nat.blt x (s (i + 1)).nx)), readsOf (s i).env (O i).op⟩
  e : ∀ i, lo ≤ i → i < n → early i (O i).after.toList = true
  a : ∀ i, lo ≤ i → i < n → (beside (B i) 0 ((List.range i).map G)).all (fun x => x.o.apart ops (O i)) = true
  r : ∀ i, lo ≤ i → i < n → runOp P call ops (O i) (restr (O i) (s i).env) (seesOf (beside (B i) 0 ((List.range i).map G)) (G i).r (s i).mem) (s i) = some (L i, s (i + 1))
  c : ∀ i, lo ≤ i → i < n → clear (beside (B i) 0 ((List.range i).map G)) (G i).w = true
theorem range_map_succ {α : Type} {f : Nat → α} {l : List α} {x : α} {i : Nat} (hl : l.length = i) (h : l ++ [x] = (List.range (i + 1)).map f) : l = (List.range i).map f ∧ f i = x := by
  rw [List.range_succ, List.map_append] at h
  obtain ⟨h1, h2⟩ := List.append_inj h (by simp [hl])
  exact ⟨h1, by simpa using h2.symm⟩
theorem dat_of {call : CallF} {ops : Array Oper} : ∀ (os : List Oper) (bs : List Nat) (segs : List Seg) (st st' : St), bs.length = segs.length → ops.toList.drop segs.length = os → runDraw P call ops os bs segs st = some st' →
    ∃ O s L B G, Dat P call ops segs.length ops.size O s L B G ∧ s segs.length = st ∧ s ops.size = st' ∧ bs = (List.range segs.length).map B ∧ segs = (List.range segs.length).map G
  | [], bs, segs, st, st', hb, hd, h => by
    simp only [runDraw, Option.some.injEq] at h
    subst h
    have hn : ops.size ≤ segs.length := by
      have := congrArg List.length hd
      simp at this; omega
    refine ⟨fun _ => default, fun _ => st, fun _ => [], fun i => bs.getD i 0, fun i => segs.getD i ⟨default, [], [], none⟩, ⟨?_, ?_, ?_, ?_, ?_, ?_, ?_⟩, rfl, rfl, ?_, ?_⟩
    iterate 7 (intro i h1 h2; omega)
    · apply List.ext_getElem <;> simp [hb]
      intro i h1; rw [List.getElem?_eq_getElem (by omega)]; rfl
    · apply List.ext_getElem <;> simp
      intro i h1; rw [List.getElem?_eq_getElem (by omega)]; rfl
  | o :: os, bs, segs, st, st', hb, hd, h => by
    simp only [runDraw] at h
    cases hc1 : (early segs.length o.after.toList && (beside (maskOf bs o.after.toList) 0 segs).all fun s => s.o.apart ops o) <;> simp only [hc1, cond] at h
    · cases h
    · split at h
      · rename_i l st1 hr
        cases hc2 : clear (beside (maskOf bs o.after.toList) 0 segs) ((l.map (·.1)).filter fun x => !(Nat.ble st.nx x && Nat.blt x st1.nx)) <;> simp only [hc2, cond] at h
        · cases h
        · have ho : ops.toList[segs.length]? = some o := by
            have : (ops.toList.drop segs.length)[0]? = some o := by rw [hd]; rfl
            simpa using this
          have hlt : segs.length < ops.size := by
            have := (List.getElem?_eq_some_iff.1 ho).1
            simpa using this
          obtain ⟨O, s, L, B, G, hD, h1, h2, h3, h4⟩ := dat_of os (bs ++ [maskOf bs o.after.toList]) (segs ++ [⟨o, l.map (·.1), (l.map (·.1)).filter fun x => !(Nat.ble st.nx x && Nat.blt x st1.nx), readsOf st.env o.op⟩]) st1 st' (by simp [hb]) (by
            rw [List.length_append, List.length_singleton, ← List.drop_drop, hd]; rfl) h
          have hlen : (segs ++ [(⟨o, l.map (·.1), (l.map (·.1)).filter fun x => !(Nat.ble st.nx x && Nat.blt x st1.nx), readsOf st.env o.op⟩ : Seg)]).length = segs.length + 1 := by simp
          rw [hlen] at h1 h3 h4 hD
          obtain ⟨h5, h6⟩ := range_map_succ hb h3
          obtain ⟨h7, h8⟩ := range_map_succ rfl h4
          simp only [Bool.and_eq_true] at hc1
          refine ⟨fun i => if i = segs.length then o else O i, fun i => if i = segs.length then st else s i, fun i => if i = segs.length then l else L i, B, G, ⟨?_, ?_, ?_, ?_, ?_, ?_, ?_⟩, by simp, by simp [show ops.size ≠ segs.length by omega, h2], h5, h7⟩
          all_goals
            intro i hi1 hi2
            by_cases hi : i = segs.length
            · subst hi
              simp only [if_true, Nat.succ_ne_self, if_false, ← h5, ← h7, h6, h8, h1]
              try first | exact ho | exact hc1.1 | exact hc1.2 | exact hr | exact hc2
            · have hi3 : segs.length + 1 ≤ i := by omega
              have hi4 : ¬ i + 1 = segs.length := by omega
              (try simp only [hi, hi4, if_false])
              first | exact hD.o i hi3 hi2 | exact hD.b i hi3 hi2 | exact hD.g i hi3 hi2 | exact hD.e i hi3 hi2 | exact hD.a i hi3 hi2 | exact hD.r i hi3 hi2 | exact hD.c i hi3 hi2
      · cases h
end Rx
end Go.Proofs.YtilfcikhipadpaaGreatDoor
end

section
/- A run reckoned by the kernel: a region that draws its order comes to the same in every order. No program. -/
set_option linter.unusedVariables false
set_option linter.unusedSimpArgs false
namespace Go.Proofs.YtilfcikhipadpaaGreatDoor
open Go.RowKit Go.Lib
namespace Rx
variable {P : Program} {A : Amb}

def lis (l : Array Bool) (k : Nat) : Prop := l.getD k false = true
instance (l : Array Bool) (k : Nat) : Decidable (lis l k) := inferInstanceAs (Decidable (l.getD k false = true))
def inK (L : Nat → Log) (k id : Nat) : Prop := ∃ e ∈ L k, e.1 = id
/-- the frame when the operations of l have come up -/
def stE (e0 : Env) (d : Nat → Option Tmp) (V : Nat → Value) (l : Array Bool) : Nat → Env
  | 0 => e0
  | k + 1 => if lis l k then putE (stE e0 d V l k) (d k) (V k) else stE e0 d V l k
def stM (m0 : Mem) (L : Nat → Log) (l : Array Bool) : Nat → Mem
  | 0 => m0
  | k + 1 => if lis l k then (stM m0 L l k).add (L k) else stM m0 L l k
theorem putE_get (e : Env) (d : Option Tmp) (v : Value) (t : Nat) : putE e d v t = if d = some t then some v else e t := by
  cases d with
  | none => rfl
  | some d =>
    simp only [putE, Env.put, Option.some.injEq]
    by_cases h : t = d
    · subst h; simp
    · rw [if_neg (fun e => h e.symm)]
      cases hb : Nat.beq t d
      · rfl
      · exact absurd (Nat.eq_of_beq_eq_true hb) h
theorem stE_eq {e0 : Env} {d : Nat → Option Tmp} {V : Nat → Value} {l l' : Array Bool} {t : Nat} : ∀ (n : Nat), (∀ k, k < n → d k = some t → (lis l k ↔ lis l' k)) → stE e0 d V l n t = stE e0 d V l' n t
  | 0, _ => rfl
  | n + 1, h => by
    have ih := stE_eq (e0 := e0) (V := V) n fun k hk => h k (by omega)
    simp only [stE]
    by_cases hd : d n = some t
    · have := h n (by omega) hd
      by_cases hl : lis l n
      · rw [if_pos hl, if_pos (this.1 hl), putE_get, putE_get, if_pos hd, if_pos hd]
      · rw [if_neg hl, if_neg (fun h => hl (this.2 h)), ih]
    · have e1 : (if lis l n then putE (stE e0 d V l n) (d n) (V n) else stE e0 d V l n) t = stE e0 d V l n t := by
        split
        · rw [putE_get, if_neg hd]
        · rfl
      have e2 : (if lis l' n then putE (stE e0 d V l' n) (d n) (V n) else stE e0 d V l' n) t = stE e0 d V l' n t := by
        split
        · rw [putE_get, if_neg hd]
        · rfl
      rw [e1, e2, ih]
theorem stM_eq {m0 : Mem} {L : Nat → Log} {l l' : Array Bool} {id : Nat} : ∀ (n : Nat), (∀ k, k < n → inK L k id → (lis l k ↔ lis l' k)) → stM m0 L l n id = stM m0 L l' n id
  | 0, _ => rfl
  | n + 1, h => by
    have ih := stM_eq (m0 := m0) n fun k hk => h k (by omega)
    simp only [stM]
    by_cases hd : inK L n id
    · have := h n (by omega) hd
      by_cases hl : lis l n
      · rw [if_pos hl, if_pos (this.1 hl)]; exact add_in hd
      · rw [if_neg hl, if_neg (fun h => hl (this.2 h)), ih]
    · have e1 : (if lis l n then (stM m0 L l n).add (L n) else stM m0 L l n) id = stM m0 L l n id := by
        split
        · exact add_out hd
        · rfl
      have e2 : (if lis l' n then (stM m0 L l' n).add (L n) else stM m0 L l' n) id = stM m0 L l' n id := by
        split
        · exact add_out hd
        · rfl
      rw [e1, e2, ih]
/-- one more has come up, that nothing behind it writes over -/
theorem stE_put {e0 : Env} {d : Nat → Option Tmp} {V : Nat → Value} {l : Array Bool} {t i : Nat} (hi : i < l.size) : ∀ (n : Nat), i < n → (∀ k, i < k → k < n → lis l k → d k = some t → d i ≠ some t) →
    stE e0 d V (l.setIfInBounds i true) n t = if d i = some t then some (V i) else stE e0 d V l n t
  | 0, h, _ => by omega
  | n + 1, hn, h => by
    have hs : ∀ k, lis (l.setIfInBounds i true) k ↔ k = i ∨ lis l k := fun k => by
      unfold lis
      by_cases e : k = i
      · subst e; simp [hi]
      · simp [Array.getD_eq_getD_getElem?, Array.getElem?_setIfInBounds_ne (fun h => e h.symm), e]
    by_cases hin : i = n
    · subst hin
      simp only [stE]
      rw [if_pos ((hs i).2 (Or.inl rfl)), putE_get]
      by_cases hd : d i = some t
      · rw [if_pos hd, if_pos hd]
      · rw [if_neg hd, if_neg hd]
        have : stE e0 d V (l.setIfInBounds i true) i t = stE e0 d V l i t := stE_eq i fun k hk _ => by rw [hs]; exact ⟨fun h => h.resolve_left (by omega), Or.inr⟩
        rw [this]
        split
        · rw [putE_get, if_neg hd]
        · rfl
    · have ih := stE_put (e0 := e0) (V := V) hi n (by omega) fun k h1 h2 => h k h1 (by omega)
      simp only [stE]
      by_cases hl : lis l n
      · rw [if_pos ((hs n).2 (Or.inr hl)), if_pos hl, putE_get, putE_get, ih]
        by_cases hd : d n = some t
        · rw [if_pos hd, if_pos hd, if_neg (h n (by omega) (by omega) hl hd)]
        · rw [if_neg hd, if_neg hd]
      · rw [if_neg (fun e => hl (((hs n).1 e).resolve_left (fun e => hin e.symm))), if_neg hl, ih]
theorem stM_put {m0 : Mem} {L : Nat → Log} {l : Array Bool} {id i : Nat} (hi : i < l.size) : ∀ (n : Nat), i < n → (∀ k, i < k → k < n → lis l k → inK L k id → ¬ inK L i id) →
    stM m0 L (l.setIfInBounds i true) n id = (stM m0 L l n).add (L i) id
  | 0, h, _ => by omega
  | n + 1, hn, h => by
    have hs : ∀ k, lis (l.setIfInBounds i true) k ↔ k = i ∨ lis l k := fun k => by
      unfold lis
      by_cases e : k = i
      · subst e; simp [hi]
      · simp [Array.getD_eq_getD_getElem?, Array.getElem?_setIfInBounds_ne (fun h => e h.symm), e]
    by_cases hin : i = n
    · subst hin
      simp only [stM]
      rw [if_pos ((hs i).2 (Or.inl rfl))]
      by_cases hd : inK L i id
      · exact add_in hd
      · rw [add_out hd, add_out hd]
        have : stM m0 L (l.setIfInBounds i true) i id = stM m0 L l i id := stM_eq i fun k hk _ => by rw [hs]; exact ⟨fun h => h.resolve_left (by omega), Or.inr⟩
        rw [this]
        split
        · rw [add_out hd]
        · rfl
    · have ih := stM_put (m0 := m0) hi n (by omega) fun k h1 h2 => h k h1 (by omega)
      simp only [stM]
      by_cases hl : lis l n
      · rw [if_pos ((hs n).2 (Or.inr hl)), if_pos hl]
        by_cases hd : inK L n id
        · have hni := h n (by omega) (by omega) hl hd
          rw [add_out hni]
          exact add_in hd
        · rw [add_out hd, ih]
          by_cases hd2 : inK L i id
          · exact add_in hd2
          · rw [add_out hd2, add_out hd2, add_out hd]
      · rw [if_neg (fun e => hl (((hs n).1 e).resolve_left (fun e => hin e.symm))), if_neg hl, ih]
end Rx
end Go.Proofs.YtilfcikhipadpaaGreatDoor
end
