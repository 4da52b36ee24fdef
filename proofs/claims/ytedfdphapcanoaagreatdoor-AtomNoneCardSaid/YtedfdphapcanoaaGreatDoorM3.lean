/- Several texts of this claim, one behind the other. -/
import Derived.Test.YtedfdphapcanoaaGreatDoorM2
import Derived.Laws.StructEq
import Derived.Great.BuildSlice

section
/- A run reckoned by the kernel: each operation does what the reckoning says. No program. -/
set_option linter.unusedVariables false
set_option linter.unusedSimpArgs false
namespace Go.Proofs.YtedfdphapcanoaaGreatDoor
open Go.RowKit Go.Lib
namespace Rx
variable {P : Program} {A : Amb}

def EvOK (D : Nat → Prop) (ρ : Nm) (ev : Operand → Option Value) (a : Act) : Prop := ∀ x u, ev x = some u → a.eval x = ren ρ u ∧ Fit D u
def OpS (P : Program) (A : Amb) (o : Oper) (ev : Operand → Option Value) (m : Mem) (nx : Nat) (ts ts' : Ts) (v : Value) (l : Log) (nx' : Nat) : Prop :=
  nx ≤ nx' ∧ LogOK m nx nx' l ∧ Sound P A ts ts' (∀ (D : Nat → Prop) (ρ : Nm) (a : Act) (w : World) (K : Act → World → Prop) (Q : Exit → Act → World → Prop),
    EvOK D ρ ev a → MemOK P A D ρ m w → (∀ i, D i → ¬ (nx ≤ i ∧ i < nx')) → (∀ ρ' w', Aft P A D ρ m nx w v l nx' ρ' w' → K (a.put o.dst (ren ρ' v)) w') → o.wp P a w K Q)
def CallR (P : Program) (A : Amb) (f : FuncId) (args : List Value) (m : Mem) (nx : Nat) (ts : Ts) (out : Out) : Prop :=
  nx ≤ out.nx ∧ LogOK m nx out.nx out.log ∧ notTuple out.v = notTuple out.v ∧ Sound P A ts out.ts (∀ (D : Nat → Prop) (ρ : Nm) (w : World), MemOK P A D ρ m w → (∀ u ∈ args, Fit D u) → (∀ i, D i → ¬ (nx ≤ i ∧ i < out.nx)) →
    Calls P f (args.map (ren ρ)).toArray w fun e w' => ∃ ρ', e = .returned (ren ρ' out.v) ∧ Aft P A D ρ m nx w out.v out.log out.nx ρ' w')
def CallS (P : Program) (A : Amb) (call : CallF) : Prop := ∀ f args m nx ts out, call f args m nx ts = some out → CallR P A f args m nx ts out

/-- an operation that yields a value and leaves the world -/
theorem OpS.val {o : Oper} {ev : Operand → Option Value} {m : Mem} {nx : Nat} {ts : Ts} {v : Value}
    (h : ∀ (D : Nat → Prop) (ρ : Nm) (a : Act) (w : World), EvOK D ρ ev a → MemOK P A D ρ m w → (execOp a.eval o).run P w = .ok (.value (ren ρ v)) w ∧ Fit D v) : OpS P A o ev m nx ts ts v [] nx :=
  ⟨Nat.le_refl _, fun e he => (by cases he), Sound.refl fun D ρ a w K Q he hm hd hk => by
    obtain ⟨h1, h2⟩ := h D ρ a w he hm
    unfold Oper.wp
    rw [h1]
    exact hk ρ w (Aft.refl hm h2)⟩
theorem ev_one {D : Nat → Prop} {ρ : Nm} {ev : Operand → Option Value} {a : Act} (h : EvOK D ρ ev a) {x : Operand} {u : Value} (hx : ev x = some u) : a.eval x = ren ρ u ∧ Fit D u := h x u hx
theorem evL_spec {D : Nat → Prop} {ρ : Nm} {ev : Operand → Option Value} {a : Act} (h : EvOK D ρ ev a) : ∀ {xs : List Operand} {vs : List Value}, evL ev xs = some vs → xs.map a.eval = vs.map (ren ρ) ∧ ∀ u ∈ vs, Fit D u
  | [], vs, e => by
    simp only [evL, Option.some.injEq] at e
    subst e
    exact ⟨rfl, fun _ h => by cases h⟩
  | x :: xs, vs, e => by
    simp only [evL] at e
    split at e
    · rename_i v hv
      split at e
      · rename_i us hus
        simp only [Option.some.injEq] at e
        subst e
        obtain ⟨h1, h2⟩ := evL_spec h hus
        exact ⟨by simp [(h x v hv).1, h1], fun u hu => by
          rcases List.mem_cons.1 hu with rfl | hu
          · exact (h x _ hv).2
          · exact h2 u hu⟩
      · cases e
    · cases e

theorem sem_real {ev : Operand → Option Value} {o : Oper} (hr : allReal ev o = true) {D : Nat → Prop} {ρ : Nm} {a : Act} (h : EvOK D ρ ev a) : execOp a.eval o = semOf ev o := by
  simp only [allReal, Bool.and_eq_true, Bool.not_eq_true'] at hr
  refine execOp_congr o (fun cs b e => by rw [e] at hr; simp [isSel] at hr) fun x hx => ?_
  have h1 := List.all_eq_true.1 hr.2 x (by simpa using hx)
  unfold realO at h1
  split at h1
  · rename_i v hv
    rw [(h x v hv).1, ren_real h1, hv]; rfl
  · cases h1
theorem plainOp_S {o : Oper} {ev : Operand → Option Value} {m : Mem} {nx : Nat} {ts : Ts} {v : Value} (h : plainOp P o ev = some v) : OpS P A o ev m nx ts ts v [] nx := by
  unfold plainOp at h
  cases hr : allReal ev o <;> simp only [hr, cond] at h
  · cases h
  · split at h
    · rename_i u hu
      cases hv : real u <;> simp only [hv, cond] at h
      · cases h
      · simp only [Option.some.injEq] at h
        subst h
        exact OpS.val fun D ρ a w he hm => ⟨by rw [sem_real hr he, ren_real hv]; exact pureRun_run w _ _ hu, Fit.real hv⟩
    · cases h

theorem run_bind_ok {α β : Type} {s : Sem α} {f : α → Sem β} {w w' : World} {x : α} (h : s.run P w = .ok x w') : (s >>= f).run P w = (f x).run P w' := by
  rw [Sem.run_bind, h]; rfl
theorem info_size {T : TypeId} {i : TypeInfo} (h : P.info? T = some i) (w : World) : (sizeOf T).run P w = .ok i.size w := by
  simp [sizeOf, typeInfo, program, h, Sem.run, pure, Bind.bind, Sem.bind]
theorem loadA_run {D : Nat → Prop} {ρ : Nm} {m : Mem} {w : World} {T : TypeId} {p v : Value} (hm : MemOK P A D ρ m w) (h : loadA P m T p = some v) :
    ∃ a, p = .pointer (some a) ∧ (loadVar T (renA ρ a)).run P w = .ok (ren ρ v) w ∧ Fit D v ∧ notTuple v = true := by
  unfold loadA at h
  split at h
  · rename_i id off k
    split at h
    · rename_i cs U hid
      obtain ⟨U, rw⟩ := U
      refine ⟨_, rfl, ?_⟩
      have hl := hm.lies hid
      have hf := hm.fit hid
      simp only [renA]
      split at h
      · rename_i hagg
        split at h
        · rename_i n hn
          cases hb : Nat.ble (off + n) cs.length <;> simp only [hb, cond] at h
          · cases h
          · simp only [Option.some.injEq] at h
            subst h
            have hb := Nat.le_of_ble_eq_true hb
            refine ⟨?_, Fit0.agg fun v hv => hf v (List.mem_of_mem_drop (List.mem_of_mem_take hv)), rfl⟩
            have h1 := pureRun_run w _ _ hagg
            have h2 := pureRun_run w _ _ hn
            unfold loadVar
            rw [run_bind_ok h1]
            simp only [if_true]
            rw [run_bind_ok h2]
            have hlen : ((cut cs off n).map (ren0 ρ)).length = n := by simp [cut]; omega
            have h3 : (loadCells ⟨(ρ id).1, off, none⟩ n).run P w = .ok ((cut cs off n).map (ren0 ρ)).toArray w := by
              have := run_loadCells_list (P := P) w ⟨(ρ id).1, off, none⟩ ((cut cs off n).map (ren0 ρ)) (fun j u hu => by
                rw [Addr.add_mid]
                rw [List.getElem?_map] at hu
                cases hc : (cut cs off n)[j]? with
                | none => rw [hc] at hu; cases hu
                | some x =>
                  rw [hc] at hu
                  simp only [Option.map_some, Option.some.injEq] at hu
                  subst hu
                  refine hl.cell ?_
                  unfold cut at hc
                  rw [List.getElem?_take] at hc
                  split at hc
                  · rw [List.getElem?_drop] at hc; exact hc
                  · cases hc)
              rwa [hlen] at this
            rw [run_bind_ok h3]
            simp [ren, ren1, Sem.run, pure]
        · cases h
      · rename_i hagg
        split at h
        · rename_i u hu
          cases hb : scal u <;> simp only [hb, cond] at h
          · cases h
          · simp only [Option.some.injEq] at h
            subst h
            refine ⟨?_, (hf u (List.mem_of_getElem? hu)).scal hb, by cases u <;> simp_all [scal, notTuple]⟩
            have h1 := pureRun_run w _ _ hagg
            unfold loadVar
            rw [run_bind_ok h1]
            simp only [Bool.false_eq_true, if_false]
            rw [ren_scal hb]
            simp [load, Sem.run, hl.cell hu]
        · cases h
      · cases h
    · cases h
  · cases h
theorem oper_val {o : Oper} {a : Act} {w w' : World} {K : Act → World → Prop} {Q : Exit → Act → World → Prop} {v : Value} (h : (execOp a.eval o).run P w = .ok (.value v) w') (hk : K (a.put o.dst v) w') : o.wp P a w K Q := by
  unfold Oper.wp; rw [h]; exact hk
theorem move_S {o : Oper} {x : Operand} (ho : o.op = .move x ∨ o.op = .assign x) {ev : Operand → Option Value} {m : Mem} {nx : Nat} {ts : Ts} {v : Value} (h : ev x = some v) : OpS P A o ev m nx ts ts v [] nx :=
  OpS.val fun D ρ a w he hm => by
    obtain ⟨h1, h2⟩ := he x v h
    refine ⟨?_, h2⟩
    rcases ho with ho | ho <;> (simp only [execOp, ho]; rw [h1]; rfl)
theorem pick_S {o : Oper} {c x y : Operand} (ho : o.op = .pick c x y) {ev : Operand → Option Value} {m : Mem} {nx : Nat} {ts : Ts} {t : Bool} {vx vy : Value} (hc : ev c = some (.bool t)) (hx : ev x = some vx) (hy : ev y = some vy) {v : Value} (hv : v = if t then vx else vy) : OpS P A o ev m nx ts ts v [] nx :=
  OpS.val fun D ρ a w he hm => by
    subst hv
    refine ⟨?_, by cases t; exact (he y vy hy).2; exact (he x vx hx).2⟩
    simp only [execOp, ho]
    rw [(he c _ hc).1, (he x _ hx).1, (he y _ hy).1]
    cases t <;> rfl
theorem info_zero {T : TypeId} {i : TypeInfo} {z : Value} (h : P.info? T = some i) (hz : i.zero = some z) (w : World) : (zeroValue T).run P w = .ok z w := by
  simp [zeroValue, typeInfo, program, h, hz, Sem.run, pure, Bind.bind, Sem.bind]
theorem newVar_run (T : TypeId) (v : Value) (w : World) : (newVar T v).run P w = .ok ⟨w.heap.size, 0, none⟩ (w.alloc (.cells v.cells T)) := rfl
theorem toArray_map (f : Value → Value) (v : Value) (h : ∀ x ∈ v.cells.toList, f x = x) : (v.cells.toList.map f).toArray = v.cells := by
  have : v.cells.toList.map f = v.cells.toList := by rw [List.map_congr_left (g := id) h, List.map_id]
  rw [this]
theorem ptr_fit (n o k : Nat) : Fit (fun i => i = n) (.pointer (some ⟨n, o, some k⟩)) := fun ρ1 ρ2 h => by
  have := h n rfl
  simp [ren, ren1, ren0, renS, renA, this]
theorem alloc_S {o : Oper} {T : TypeId} (ho : o.op = .alloc T) {ev : Operand → Option Value} {m : Mem} {nx : Nat} {ts : Ts} {i : TypeInfo} {z : Value} (hi : P.info? T = some i) (hz : i.zero = some z) (hr : z.cells.toList.all real0 = true) :
    OpS P A o ev m nx ts ts (.pointer (some ⟨nx, 0, some 0⟩)) [(nx, some (z.cells.toList, T, false))] (nx + 1) :=
  ⟨Nat.le_succ _, fun e he => Or.inr (by simp only [List.mem_singleton] at he; subst he; exact ⟨Nat.le_refl _, Nat.lt_succ_self _⟩), Sound.refl fun D ρ a w K Q he hm hd hk => by
    have hz' : ∀ x ∈ z.cells.toList, real0 x = true := List.all_eq_true.1 hr
    have ha := Aft.alloc (T := T) (nx := nx) hm (fun i hi e => hd i hi ⟨by omega, by omega⟩) (fun v hv => (fun ρ1 ρ2 _ => by rw [ren0_real (hz' v hv), ren0_real (hz' v hv)]) : ∀ v ∈ z.cells.toList, Fit0 D v) 0 #[] (r := false) (fun h => by cases h) (ptr_fit nx 0 0)
    have := hk _ _ ha
    rw [toArray_map _ z (fun x hx => ren0_real (hz' x hx)), Array.append_empty] at this
    refine oper_val ?_ this
    simp only [execOp, ho]
    show ((Instr.alloc T true (.tuple #[])) >>= fun r => pure (Next.value r)).run P w = _
    have h1 : (Instr.alloc T true (.tuple #[])).run P w = .ok (.pointer (some ⟨w.heap.size, 0, none⟩)) (w.alloc (.cells z.cells T)) := by
      unfold Instr.alloc
      rw [run_bind_ok (info_zero hi hz w)]
      rfl
    rw [run_bind_ok h1]
    simp [ren, ren1, ren0, renS, renA, upd_self, Sem.run, pure]⟩
theorem box_S {o : Oper} {T : TypeId} {x : Operand} (ho : o.op = .box T x) {ev : Operand → Option Value} {m : Mem} {nx : Nat} {ts : Ts} {v : Value} (hx : ev x = some v) (hn : notTuple v = true) :
    OpS P A o ev m nx ts ts (.pointer (some ⟨nx, 0, some 0⟩)) [(nx, some (v.cells.toList, T, false))] (nx + 1) :=
  ⟨Nat.le_succ _, fun e he => Or.inr (by simp only [List.mem_singleton] at he; subst he; exact ⟨Nat.le_refl _, Nat.lt_succ_self _⟩), Sound.refl fun D ρ a w K Q he hm hd hk => by
    obtain ⟨h1, h2⟩ := he x v hx
    have ha := Aft.alloc (T := T) (nx := nx) hm (fun i hi e => hd i hi ⟨by omega, by omega⟩) (h2.cells hn) 0 #[] (r := false) (fun h => by cases h) (ptr_fit nx 0 0)
    rw [Array.append_empty] at ha
    refine oper_val ?_ (hk _ _ ha)
    simp only [execOp, ho]
    rw [h1]
    show ((Instr.box T (ren ρ v)) >>= fun r => pure (Next.value r)).run P w = _
    have h3 : (Instr.box T (ren ρ v)).run P w = .ok (.pointer (some ⟨w.heap.size, 0, none⟩)) (w.alloc (.cells (v.cells.toList.map (ren0 ρ)).toArray T)) := by
      rw [← cells_ren hn]; rfl
    rw [run_bind_ok h3]
    simp [ren, ren1, ren0, renS, renA, upd_self, Sem.run, pure]⟩
theorem load_S {o : Oper} {T : TypeId} {x : Operand} (ho : o.op = .load T x) {ev : Operand → Option Value} {m : Mem} {nx : Nat} {ts : Ts} {p v : Value} (hx : ev x = some p) (h : loadA P m T p = some v) : OpS P A o ev m nx ts ts v [] nx :=
  OpS.val fun D ρ a w he hm => by
    obtain ⟨ad, rfl, h1, h2, _⟩ := loadA_run hm h
    refine ⟨?_, h2⟩
    simp only [execOp, ho]
    rw [(he x _ hx).1]
    show ((Instr.loadAt T (.pointer (some (renA ρ ad)))) >>= fun r => pure (Next.value r)).run P w = _
    have h3 : (Instr.loadAt T (.pointer (some (renA ρ ad)))).run P w = .ok (ren ρ v) w := h1
    rw [run_bind_ok h3]
    rfl
theorem store_S {o : Oper} {T : TypeId} {x y : Operand} (ho : o.op = .store T x y) {ev : Operand → Option Value} {m : Mem} {nx : Nat} {ts : Ts} {p v : Value} {e : Nat × Option Blk} (hx : ev x = some p) (hy : ev y = some v) (h : storeA P m T v p = some e) : OpS P A o ev m nx ts ts undef [e] nx := by
  unfold storeA at h
  split at h
  · rename_i id off k
    split at h
    · rename_i cs U rw' hid
      split at h
      · rename_i n hn
        cases hb : (Nat.beq v.cells.size n && Nat.ble (off + n) cs.length && v.cells.toList.all scal && notTuple v) <;> simp only [hb, cond] at h
        · cases h
        · simp only [Option.some.injEq] at h
          subst h
          simp only [Bool.and_eq_true] at hb
          obtain ⟨⟨⟨b1, b2⟩, b3⟩, b4⟩ := hb
          have b1 := Nat.eq_of_beq_eq_true b1
          have b2 := Nat.le_of_ble_eq_true b2
          refine ⟨Nat.le_refl _, fun e he => Or.inl (by simp only [List.mem_singleton] at he; subst he; simp [hid]), Sound.refl fun D ρ a w K Q he hm hd hk => ?_⟩
          obtain ⟨h1, h2⟩ := he y v hy
          have hl := hm.lies hid
          have ha := Aft.store (nx := nx) hm hid (o := off) (vs := v.cells.toList) (by simp; omega) (h2.cells b4)
          have hk' := hk _ _ ha
          unfold Oper.wp
          simp only [execOp, ho]
          rw [(he x _ hx).1, h1]
          have hst : (storeCells ⟨(ρ id).1, off, none⟩ (v.cells.toList.map (ren0 ρ)) 0).run P w = .ok () (w.setCells (ρ id).1 (off + 0) (v.cells.toList.map (ren0 ρ))) :=
            run_storeCells_cells (P := P) (ρ id).1 off _ 0 w (fun j hj => by
              have hj' : off + j < cs.length := by simp at hj; omega
              rw [Nat.add_zero, hl.cell (List.getElem?_eq_getElem hj')]; rfl)
              (fun j hj => by
                have hj' : off + j < cs.length := by simp at hj; omega
                rw [Nat.add_zero]; exact hl.frozen hj')
              (fun u hu => by
                obtain ⟨z, hz, rfl⟩ := List.mem_map.1 hu
                exact oneCell_ren0 (List.all_eq_true.1 b3 z hz))
          rw [Nat.add_zero] at hst
          have hcl : (ren ρ v).cells.toList = v.cells.toList.map (ren0 ρ) := by rw [cells_ren b4]
          have hsz : (ren ρ v).cells.size = n := by rw [cells_ren b4]; simp; exact b1
          have h3 : (Instr.storeAt T (ren ρ (.pointer (some ⟨id, off, some k⟩))) (ren ρ v)).run P w = .ok () (w.setCells (ρ id).1 off (v.cells.toList.map (ren0 ρ))) := by
            show (storeVar T ⟨(ρ id).1, off, none⟩ (ren ρ v)).run P w = _
            unfold storeVar
            rw [run_bind_ok (pureRun_run w _ _ hn)]
            rw [if_neg (by rw [hsz]; simp)]
            rw [hcl]
            exact hst
          show o.upon P a K Q (((Instr.storeAt T (ren ρ (.pointer (some ⟨id, off, some k⟩))) (ren ρ v)) >>= fun _ => pure Next.skip).run P w)
          rw [run_bind_ok h3]
          exact hk'
      · cases h
    · cases h
  · cases h
theorem nilCheck_S {o : Oper} {x : Operand} (ho : o.op = .nilCheck x) {ev : Operand → Option Value} {m : Mem} {nx : Nat} {ts : Ts} {ad : Addr} (h : ev x = some (.pointer (some ad))) : OpS P A o ev m nx ts ts (.pointer (some ad)) [] nx :=
  OpS.val fun D ρ a w he hm => by
    obtain ⟨h1, h2⟩ := he x _ h
    refine ⟨?_, h2⟩
    simp only [execOp, ho]
    rw [h1]
    rfl
theorem fieldAt_run {T : TypeId} {f : Nat} {fs : Array Field} {fd : Field} {i : TypeInfo} (h1 : structOf P T = some fs) (h2 : fs[f]? = some fd) (h3 : P.info? fd.type = some i) (h4 : Nat.beq i.size 0 = false) (b o : Nat) (w : World) :
    (Instr.fieldAt T (.pointer (some ⟨b, o, none⟩)) f).run P w = .ok (.pointer (some ⟨b, o + fd.offset, none⟩)) w := by
  have hu : P.underlying T = some (.struct fs) := by
    unfold structOf at h1
    split at h1
    · rename_i gs hg
      simp only [Option.some.injEq] at h1
      rw [hg, h1]
    · cases h1
  have h4 : ¬ i.size = 0 := Nat.ne_of_beq_eq_false h4
  unfold Instr.fieldAt
  rw [run_bind_ok (run_underlying hu w)]
  simp only [h2]
  show ((pure (⟨b, o, none⟩ : Addr) : Sem Addr) >>= fun a => fieldPlace a fd >>= fun p => pure (Value.pointer (some p))).run P w = _
  have h5 : (fieldPlace ⟨b, o, none⟩ fd).run P w = .ok ⟨b, o + fd.offset, none⟩ w := by
    unfold fieldPlace
    rw [run_bind_ok (info_size h3 w), if_neg h4, Addr.add_mid]
    rfl
  rw [run_bind_ok (show ((pure (⟨b, o, none⟩ : Addr) : Sem Addr)).run P w = .ok ⟨b, o, none⟩ w from rfl), run_bind_ok h5]
  rfl
theorem fieldAddr_S {o : Oper} {T : TypeId} {x : Operand} {f : Nat} (ho : o.op = .fieldAddr T x f) {ev : Operand → Option Value} {m : Mem} {nx : Nat} {ts : Ts} {id off : Nat} {k : Nat} (h : ev x = some (.pointer (some ⟨id, off, some k⟩)))
    {fs : Array Field} {fd : Field} {i : TypeInfo} (h1 : structOf P T = some fs) (h2 : fs[f]? = some fd) (h3 : P.info? fd.type = some i) (h4 : Nat.beq i.size 0 = false) : OpS P A o ev m nx ts ts (.pointer (some ⟨id, off + fd.offset, some 0⟩)) [] nx :=
  OpS.val fun D ρ a w he hm => by
    obtain ⟨e1, e2⟩ := he x _ h
    refine ⟨?_, fun ρ1 ρ2 k' => ?_⟩
    · simp only [execOp, ho]
      rw [e1]
      show ((Instr.fieldAt T (.pointer (some ⟨(ρ id).1, off, none⟩)) f) >>= fun r => pure (Next.value r)).run P w = _
      rw [run_bind_ok (fieldAt_run h1 h2 h3 h4 _ _ w)]
      rfl
    · have := e2 ρ1 ρ2 k'
      simp only [ren, ren1, ren0, renS, renA, Value.pointer.injEq, Option.some.injEq, Addr.mk.injEq] at this ⊢
      simp [this.1]
theorem fieldAddr_R {o : Oper} {T : TypeId} {x : Operand} {f : Nat} (ho : o.op = .fieldAddr T x f) {ev : Operand → Option Value} {m : Mem} {nx : Nat} {ts : Ts} {b off : Nat} (h : ev x = some (.pointer (some ⟨b, off, none⟩)))
    {fs : Array Field} {fd : Field} {i : TypeInfo} (h1 : structOf P T = some fs) (h2 : fs[f]? = some fd) (h3 : P.info? fd.type = some i) (h4 : Nat.beq i.size 0 = false) : OpS P A o ev m nx ts ts (.pointer (some ⟨b, off + fd.offset, none⟩)) [] nx :=
  OpS.val fun D ρ a w he hm => by
    obtain ⟨e1, e2⟩ := he x _ h
    refine ⟨?_, Fit.real rfl⟩
    simp only [execOp, ho]
    rw [e1]
    show ((Instr.fieldAt T (.pointer (some ⟨b, off, none⟩)) f) >>= fun r => pure (Next.value r)).run P w = _
    rw [run_bind_ok (fieldAt_run h1 h2 h3 h4 _ _ w)]
    rfl
theorem extract_S {o : Oper} {x : Operand} {i : Nat} (ho : o.op = .extract x i) {ev : Operand → Option Value} {m : Mem} {nx : Nat} {ts : Ts} {vs : Array Value} {v : Value} (h : ev x = some (.tuple vs)) (hv : vs[i]? = some v) (hn : notTuple v = true) : OpS P A o ev m nx ts ts v [] nx :=
  OpS.val fun D ρ a w he hm => by
    obtain ⟨e1, e2⟩ := he x _ h
    refine ⟨?_, e2.part hv hn⟩
    simp only [execOp, ho]
    rw [e1]
    have h1 : ((vs.toList.map (ren1 ρ)).toArray)[i]? = some (ren ρ v) := by
      rw [ren_notTuple hn]; simp [hv]
    simp only [ren, Instr.extract, h1]
    rfl
def setAll (off : Nat) : List (Value × Nat) → Array Value → Array Value
  | [], cs => cs
  | (c, j) :: l, cs => setAll off l (cs.setIfInBounds (off + j) c)
theorem setAll_eq (off : Nat) : ∀ (l : List (Value × Nat)) (cs : Array Value), l.foldl (fun cs (x : Value × Nat) => cs.setIfInBounds (off + x.2) x.1) cs = setAll off l cs
  | [], _ => rfl
  | (c, j) :: l, cs => setAll_eq off l _
theorem setAll_map (off : Nat) (f : Value → Value) : ∀ (l : List (Value × Nat)) (cs : Array Value), setAll off (l.map fun x => (f x.1, x.2)) (cs.toList.map f).toArray = ((setAll off l cs).toList.map f).toArray
  | [], _ => rfl
  | (c, j) :: l, cs => by
    show setAll off (l.map fun x => (f x.1, x.2)) ((cs.toList.map f).toArray.setIfInBounds (off + j) (f c)) = ((setAll off l (cs.setIfInBounds (off + j) c)).toList.map f).toArray
    rw [← setAll_map off f l]
    congr 1
    simp
theorem fill_map {place : Nat → Option (Nat × Nat)} {ρ : Nm} : ∀ (ps : List (Nat × Value)) (cs out : Array Value), (∀ p ∈ ps, notTuple p.2 = true) → Instr.fill place cs ps = some out →
    Instr.fill place (cs.toList.map (ren0 ρ)).toArray (ps.map fun p => (p.1, ren ρ p.2)) = some (out.toList.map (ren0 ρ)).toArray
  | [], cs, out, _, h => by
    simp only [Instr.fill, Option.some.injEq] at h
    subst h; rfl
  | (i, v) :: ps, cs, out, hn, h => by
    simp only [Instr.fill, List.map_cons] at h ⊢
    cases hp : place i with
    | none => rw [hp] at h; cases h
    | some q =>
      obtain ⟨off, size⟩ := q
      rw [hp] at h
      simp only at h ⊢
      have hv : (ren ρ v).cells = (v.cells.toList.map (ren0 ρ)).toArray := cells_ren (hn (i, v) (by simp))
      have hs : (ren ρ v).cells.size = v.cells.size := by rw [hv]; simp
      have hcs : (cs.toList.map (ren0 ρ)).toArray.size = cs.size := by simp
      rw [hs, hcs]
      split at h
      · cases h
      · rename_i hc
        rw [if_neg hc]
        have := fill_map (ρ := ρ) ps _ out (fun p hp => hn p (by simp [hp])) h
        rw [← this]
        congr 1
        rw [← Array.foldl_toList, ← Array.foldl_toList]
        have e1 := setAll_eq off v.cells.zipIdx.toList cs
        have e2 := setAll_eq off (ren ρ v).cells.zipIdx.toList (cs.toList.map (ren0 ρ)).toArray
        have e3 := setAll_map off (ren0 ρ) v.cells.zipIdx.toList cs
        have e4 : (ren ρ v).cells.zipIdx.toList = v.cells.zipIdx.toList.map fun x => (ren0 ρ x.1, x.2) := by
          rw [hv]
          simp [Array.toList_zipIdx, List.zipIdx_map, Prod.map]
        rw [e4] at e2 ⊢
        exact (e2.trans e3).trans (by rw [← e1])
theorem built_map {T : TypeId} {ρ : Nm} {ps : List (Nat × Value)} {out : Array Value} (hn : ∀ p ∈ ps, notTuple p.2 = true) (hz : zeroReal P T = true) (h : P.built T ps = some out) :
    P.built T (ps.map fun p => (p.1, ren ρ p.2)) = some (out.toList.map (ren0 ρ)).toArray := by
  unfold Program.built at h ⊢
  unfold zeroReal at hz
  cases hi : P.info? T with
  | none => rw [hi] at h; cases h
  | some i =>
    rw [hi] at h hz
    cases hu : P.underlying T with
    | none => rw [hu] at h; cases h
    | some d =>
      rw [hu] at h
      cases hzz : i.zero with
      | none => cases d <;> simp [hzz] at h
      | some z =>
        simp only [hzz] at hz
        have hm : (z.cells.toList.map (ren0 ρ)).toArray = z.cells := toArray_map _ z fun x hx => ren0_real (List.all_eq_true.1 hz x hx)
        cases d <;> try (cases h; done)
        case array n e =>
          simp only [hzz] at h ⊢
          cases he : P.info? e with
          | none => rw [he] at h; cases h
          | some ie =>
            rw [he] at h
            have := fill_map (ρ := ρ) ps _ out hn h
            rwa [hm] at this
        case struct fs =>
          simp only [hzz] at h ⊢
          split at h
          · rename_i places hp
            simp only [Option.some.injEq] at *
            subst_vars
            have := fill_map (ρ := ρ) ps _ out hn h
            rw [hm] at this
            exact this
          · cases h
theorem zip_fst {α β : Type} : ∀ (a : List α) (b : List β) (f : β → β), (a.zip b).map (fun p => (p.1, f p.2)) = a.zip (b.map f)
  | [], _, _ => rfl
  | _ :: _, [], _ => rfl
  | x :: a, y :: b, f => by simp [zip_fst a b f]
theorem build_S {o : Oper} {T : TypeId} {ps : Array (Nat × Operand)} (ho : o.op = .build T ps) {ev : Operand → Option Value} {m : Mem} {nx : Nat} {ts : Ts} {v : Value} (h : buildA P T ev ps.toList = some v) : OpS P A o ev m nx ts ts v [] nx := by
  unfold buildA at h
  split at h
  · rename_i vs hvs
    cases hb : (vs.all notTuple && zeroReal P T) <;> simp only [hb, cond] at h
    · cases h
    · split at h
      · rename_i cells hc
        simp only [Option.some.injEq] at h
        subst h
        simp only [Bool.and_eq_true] at hb
        have hn : ∀ p ∈ (ps.toList.map (·.1)).zip vs, notTuple p.2 = true := fun p hp => List.all_eq_true.1 hb.1 p.2 (List.of_mem_zip hp).2
        refine OpS.val fun D ρ a w he hm => ?_
        obtain ⟨e1, e2⟩ := evL_spec he hvs
        have key : ∀ ρ : Nm, P.built T ((ps.toList.map (·.1)).zip (vs.map (ren ρ))) = some (cells.toList.map (ren0 ρ)).toArray := fun ρ => by
          rw [← zip_fst]; exact built_map hn hb.2 hc
        refine ⟨?_, fun ρ1 ρ2 k => ?_⟩
        · simp only [execOp, ho]
          have hp : (ps.map fun (i, x) => (i, a.eval x)).toList = (ps.toList.map (·.1)).zip (vs.map (ren ρ)) := by
            rw [← e1, Array.toList_map]
            generalize ps.toList = l
            induction l with
            | nil => rfl
            | cons x l ih => simp only [List.map_cons, List.zip_cons_cons]; rw [ih]
          have h1 := run_build (P := P) w T (ps.map fun (i, x) => (i, a.eval x)) _ (by rw [hp]; exact key ρ)
          rw [run_bind_ok h1]
          rfl
        · have h1 := key ρ1
          rw [show vs.map (ren ρ1) = vs.map (ren ρ2) from List.map_congr_left fun u hu => e2 u hu ρ1 ρ2 k, key ρ2] at h1
          simp only [ren, ren1]
          simp only [Option.some.injEq] at h1
          rw [h1]
      · cases h
  · cases h
end Rx
end Go.Proofs.YtedfdphapcanoaaGreatDoor
end

section
/- A run reckoned by the kernel: comparisons of structs and pointers; slices of the run's own. No program. -/
set_option linter.unusedVariables false
set_option linter.unusedSimpArgs false
namespace Go.Proofs.YtedfdphapcanoaaGreatDoor
open Go.RowKit Go.Lib
namespace Rx
variable {P : Program} {A : Amb}

/-! ### comparisons -/
theorem agg_isAgg {t : TypeId} (w : World) {b : Bool} (h : pureRun P (isAgg t) = some b) : (isAgg t).run P w = .ok b w := pureRun_run w _ _ h
theorem part_run {ρ : Nm} {t : TypeId} {cs : List Value} {off : Nat} {v : Value} (w : World) (h : partA P t cs off = some v) : (part t (cs.map (ren0 ρ)).toArray off).run P w = .ok (ren ρ v) w ∧ notTuple v = true := by
  unfold partA at h
  unfold part
  split at h
  · rename_i ha
    split at h
    · rename_i n hn
      simp only [Option.some.injEq] at h
      subst h
      rw [run_bind_ok (pureRun_run w _ _ ha)]
      simp only [if_true]
      rw [run_bind_ok (pureRun_run w _ _ hn)]
      refine ⟨?_, rfl⟩
      simp [ren, ren1, cut, Sem.run, pure, List.map_take, List.map_drop]
    · cases h
  · rename_i ha
    split at h
    · rename_i u hu
      cases hs : scal u <;> simp only [hs, cond] at h
      · cases h
      · simp only [Option.some.injEq] at h
        subst h
        rw [run_bind_ok (pureRun_run w _ _ ha)]
        have : ((cs.map (ren0 ρ)).toArray)[off]? = some (ren ρ u) := by rw [ren_scal hs]; simp [hu]
        simp only [Bool.false_eq_true, if_false, this]
        exact ⟨rfl, by cases u <;> simp_all [scal, notTuple]⟩
    · cases h
  · cases h
theorem eqS_run {ρ : Nm} {t : TypeId} {d : TypeDesc} (hu : P.underlying t = some d) {x y : Value} {b : Bool} (h : eqS d x y = some b) (n : Nat) (w : World) : (Op.equalIn (n + 1) t (ren ρ x) (ren ρ y)).run P w = .ok b w := by
  unfold eqS at h
  split at h
  · simp only [Option.some.injEq] at h; subst h
    simp [Op.equalIn, run_underlying hu, ren, ren1, ren0, renS]
  · rename_i k a k' b'
    cases hk : decide (k = k') <;> simp only [hk, cond] at h
    · cases h
    · simp only [Option.some.injEq] at h; subst h
      have : k = k' := of_decide_eq_true hk
      subst this
      simp [Op.equalIn, run_underlying hu, ren, ren1, ren0, renS]
  · simp only [Option.some.injEq] at h; subst h
    simp [Op.equalIn, run_underlying hu, ren, ren1, ren0, renS, beq_toListBytes]
  · rename_i e b'
    simp only [Option.some.injEq] at h; subst h
    cases b' <;> simp [Op.equalIn, run_underlying hu, ren, ren1, ren0, renS]
  · simp only [Option.some.injEq] at h; subst h
    simp [Op.equalIn, run_underlying hu, ren, ren1, ren0, renS]
  · rename_i e n' c b' n2 c2
    simp only [Option.some.injEq] at h; subst h
    cases b' <;> simp [Op.equalIn, run_underlying hu, ren, ren1, ren0, renS]
  · simp only [Option.some.injEq] at h; subst h
    simp [Op.equalIn, run_underlying hu, ren, ren1, ren0, renS]
  · simp only [Option.some.injEq] at h; subst h
    simp [Op.equalIn, run_underlying hu, ren, ren1, ren0, renS]
  · simp only [Option.some.injEq] at h; subst h
    simp [Op.equalIn, run_underlying hu, ren, ren1, ren0, renS]
  · simp only [Option.some.injEq] at h; subst h
    simp [Op.equalIn, run_underlying hu, ren, ren1, ren0, renS]
  · cases h
theorem eqF_run {ρ : Nm} {eqr : TypeId → Value → Value → Option Bool} {d : Nat} (ih : ∀ t x y b, eqr t x y = some b → ∀ w : World, (Op.equalIn d t (ren ρ x) (ren ρ y)).run P w = .ok b w) (xs ys : List Value) (w : World) : ∀ (fs : List Field) (b : Bool), eqF P eqr xs ys fs = some b →
    (Op.eqFields d (xs.map (ren0 ρ)).toArray (ys.map (ren0 ρ)).toArray fs).run P w = .ok b w
  | [], b, h => by
    simp only [eqF, Option.some.injEq] at h
    subst h; rfl
  | f :: fs, b, h => by
    simp only [eqF] at h
    cases hn : (f.name == "_") <;> simp only [hn, cond] at h
    · split at h
      · rename_i a ha
        split at h
        · rename_i c hc
          split at h
          · rename_i r hr
            split at h
            · rename_i q hq
              simp only [Option.some.injEq] at h
              subst h
              unfold Op.eqFields
              rw [if_pos (by simpa using hn)]
              rw [run_bind_ok (part_run w ha).1, run_bind_ok (part_run w hc).1, run_bind_ok (ih _ _ _ _ hr w)]
              cases r
              · rfl
              · simp only [Bool.not_true, Bool.false_eq_true, if_false, Bool.true_and]
                exact eqF_run ih xs ys w fs q hq
            · cases h
          · cases h
        · cases h
      · cases h
    · cases h
theorem eqA_run {ρ : Nm} : ∀ (n : Nat) (t : TypeId) (x y : Value) (b : Bool), eqA P n t x y = some b → ∀ (d : Nat), n ≤ d → ∀ w : World, (Op.equalIn d t (ren ρ x) (ren ρ y)).run P w = .ok b w
  | 0, _, _, _, _, h => by cases h
  | n + 1, t, x, y, b, h => by
    intro d hd w
    obtain ⟨d, rfl⟩ : ∃ e, d = e + 1 := ⟨d - 1, by omega⟩
    simp only [eqA] at h
    split at h
    · rename_i fs hu
      split at h
      · rename_i xs
        split at h
        · rename_i ys
          cases hp : P.stoodInHeld t <;> simp only [hp, cond] at h
          · have hf : P.fieldsOf t = fs := by unfold Program.fieldsOf; rw [hu]
            simp only [ren, ren1]
            rw [run_equalIn_struct w d t _ _ (by rw [hf]; exact hu) hp, hf]
            exact eqF_run (fun t x y b h w => eqA_run n t x y b h d (by omega) w) _ _ w _ b h
          · cases h
        · cases h
      · cases h
    · rename_i dd hne hu
      exact eqS_run hu h d w
    · cases h
theorem ren_slice (ρ : Nm) (a : Option Addr) (n c : Nat) : ∃ a' c', ren ρ (.slice a n c) = .slice a' n c' := by
  cases a <;> exact ⟨_, _, rfl⟩
theorem ren_pointer (ρ : Nm) (a : Option Addr) : ∃ a', ren ρ (.pointer a) = .pointer a' := by
  cases a <;> exact ⟨_, rfl⟩
theorem cmp_S {o : Oper} {op : BinOp} {T yT : TypeId} {x y : Operand} (ho : o.op = .binOp op T x y yT) {ev : Operand → Option Value} {m : Mem} {nx : Nat} {ts : Ts} {a b v : Value} (hx : ev x = some a) (hy : ev y = some b) (h : cmpA P op T a b = some v) : OpS P A o ev m nx ts ts v [] nx := by
  unfold cmpA at h
  split at h
  · rename_i e he
    cases hg : (notNum a && guardA P T a) <;> simp only [hg, cond] at h
    · cases h
    · split at h
      · rename_i r hr
        simp only [Option.some.injEq] at h
        subst h
        simp only [Bool.and_eq_true] at hg
        refine OpS.val fun D ρ ac w he' hm => ⟨?_, Fit.real rfl⟩
        have h1 := eqA_run (ρ := ρ) 10 T a b r hr Op.maxDepth (by decide) w
        have h2 : (eqGuard op T x y (ren ρ a) (ren ρ b)).run P w = .ok () w := by
          have hgb := hg.2
          unfold guardA at hgb
          split at hgb
          · rename_i cs
            simp only [ren, ren1]
            cases b <;> first
              | (simp only [ren, ren1]; exact run_eqGuard_agg w op T x y _ _ (by simpa using hgb))
              | (simp only [ren, ren1, ren0, renS]; cases op <;> rfl)
              | skip
            case pointer q => cases q <;> (simp only [ren, ren1, ren0, renS]; cases op <;> rfl)
            case slice q _ _ => cases q <;> (simp only [ren, ren1, ren0, renS]; cases op <;> rfl)
          · cases hgb
          · rename_i hna hnn
            unfold eqGuard
            cases op <;> try rfl
            all_goals
              cases a
              case agg => exact absurd rfl (hna _)
              case nilIface => exact absurd rfl hnn
              case pointer q => obtain ⟨q', e⟩ := ren_pointer ρ q; rw [e]; rfl
              case slice q n c => obtain ⟨q', c', e⟩ := ren_slice ρ q n c; rw [e]; rfl
              all_goals rfl
        have h3 : (binOp op T (ren ρ a) (ren ρ b)).run P w = .ok (.bool (cond e r (!r))) w := by
          have hna := hg.1
          have key : ∀ x' y' : Value, notNum x' = true → binOp .eql T x' y' = (do pure (.bool (← Op.equal T x' y'))) ∧ binOp .neq T x' y' = (do pure (.bool (!(← Op.equal T x' y')))) := fun x' y' hx' => by
            cases x' <;> first
              | (simp [notNum] at hx'; done)
              | (cases y' <;> exact ⟨rfl, rfl⟩)
          have hren : notNum (ren ρ a) = true := by
            cases a
            case pointer q => obtain ⟨q', e⟩ := ren_pointer ρ q; rw [e]; rfl
            case slice q n c => obtain ⟨q', c', e⟩ := ren_slice ρ q n c; rw [e]; rfl
            all_goals exact hna
          obtain ⟨k1, k2⟩ := key _ (ren ρ b) hren
          have h1' : (Op.equal T (ren ρ a) (ren ρ b)).run P w = .ok r w := h1
          unfold isEq at he
          split at he
          · simp only [Option.some.injEq] at he; subst he
            rw [k1, run_bind_ok h1']; rfl
          · simp only [Option.some.injEq] at he; subst he
            rw [k2, run_bind_ok h1']; rfl
          · cases he
        simp only [execOp, ho]
        rw [(he' x _ hx).1, (he' y _ hy).1]
        show (((eqGuard op T x y (ren ρ a) (ren ρ b)) >>= fun _ => binOp op T (ren ρ a) (ren ρ b)) >>= fun r => pure (Next.value r)).run P w = _
        have h4 : ((eqGuard op T x y (ren ρ a) (ren ρ b)) >>= fun _ => binOp op T (ren ρ a) (ren ρ b)).run P w = .ok (.bool (cond e r (!r))) w := by rw [run_bind_ok h2]; exact h3
        rw [run_bind_ok h4]
        rfl
      · cases h
  · cases h
end Rx
end Go.Proofs.YtedfdphapcanoaaGreatDoor
end
