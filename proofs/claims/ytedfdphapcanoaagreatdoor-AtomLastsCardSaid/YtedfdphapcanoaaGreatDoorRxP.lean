/- A run reckoned by the kernel: slices of the run's own. No program. -/
import Derived.Test.YtedfdphapcanoaaGreatDoorRxO
set_option linter.unusedVariables false
set_option linter.unusedSimpArgs false
namespace Go.Proofs.YtedfdphapcanoaaGreatDoor
open Go.RowKit Go.Lib
namespace Rx
variable {P : Program} {A : Amb}

theorem plainR_S {o : Oper} {ev : Operand → Option Value} {m : Mem} {nx : Nat} {ts : Ts} {r : Value × Log × Nat} (h : plainR P o ev nx = some r) : OpS P A o ev m nx ts ts r.1 r.2.1 r.2.2 := by
  unfold plainR at h
  split at h
  · rename_i v hv
    simp only [Option.some.injEq] at h; subst h
    exact plainOp_S hv
  · cases h
theorem len_S {o : Oper} {args : Array Operand} {ats : Array TypeId} (ho : o.op = .call ⟨.builtin .len, args, ats⟩) {ev : Operand → Option Value} {m : Mem} {nx : Nat} {ts : Ts} {a : Option Addr} {n c : Nat} (hv : evL ev args.toList = some [.slice a n c]) {e : TypeId} (ht : (ats.toList[0]?).bind P.underlying = some (.slice e)) : OpS P A o ev m nx ts ts (.int .i64 n) [] nx :=
  OpS.val fun D ρ ac w he hm => by
    obtain ⟨e1, e2⟩ := evL_spec he hv
    refine ⟨?_, Fit.real rfl⟩
    obtain ⟨a', c', hs⟩ := ren_slice ρ a n c
    have h1 : args.map ac.eval = #[.slice a' n c'] := by
      have : (args.map ac.eval).toList = [.slice a' n c'] := by rw [Array.toList_map, e1, ← hs]; rfl
      rw [← Array.toArray_toList (xs := args.map ac.eval), this]
    cases h0 : ats.toList[0]? with
    | none => rw [h0] at ht; cases ht
    | some t =>
      rw [h0] at ht
      simp only [Option.bind_some] at ht
      have h2 : ats[0]? = some t := by rw [← Array.getElem?_toList]; exact h0
      simp [execOp, ho, resolve, invoke, builtin, h1, Sem.run_bind, Builtin.len_, h2, run_underlying ht, goInt, ren, ren1, ren0, renS]
theorem elemA_spec {T e : TypeId} {i : TypeInfo} (h : elemA P T = some (e, i)) : P.underlying T = some (.slice e) ∧ P.info? e = some i ∧ i.size ≠ 0 := by
  unfold elemA at h
  split at h
  · rename_i e' hu
    split at h
    · rename_i j hj
      cases hb : Nat.beq j.size 0 <;> simp only [hb, cond] at h
      · simp only [Option.some.injEq, Prod.mk.injEq] at h
        obtain ⟨rfl, rfl⟩ := h
        exact ⟨hu, hj, Nat.ne_of_beq_eq_false hb⟩
      · cases h
    · cases h
  · cases h
theorem renB_lt {ρ : Nm} {id off q c : Nat} (h : q < 2) : renB ρ ⟨id, off, some q⟩ c = ⟨(ρ id).1, off, none⟩ := by
  match q, h with
  | 0, _ => rfl
  | 1, _ => rfl
theorem index_S {o : Oper} {T : TypeId} {x y : Operand} (ho : o.op = .indexAddr T x y) {ev : Operand → Option Value} {m : Mem} {nx : Nat} {ts : Ts} {a j v : Value} (hx : ev x = some a) (hy : ev y = some j) (h : indexA P T a j = some v) : OpS P A o ev m nx ts ts v [] nx := by
  unfold indexA at h
  split at h
  · rename_i id off k n c ik jn
    split at h
    · rename_i e i he
      cases hb : (Nat.blt k 2 && Nat.blt jn n) <;> simp only [hb, cond] at h
      · cases h
      · simp only [Option.some.injEq] at h; subst h
        simp only [Bool.and_eq_true] at hb
        have hk2 : k < 2 := by simpa [Nat.blt_eq] using hb.1
        have hb : jn < n := by simpa [Nat.blt_eq] using hb.2
        obtain ⟨hu, hi, hz⟩ := elemA_spec he
        refine OpS.val fun D ρ ac w hev hm => ⟨?_, fun ρ1 ρ2 k' => ?_⟩
        · simp only [execOp, ho]
          rw [(hev x _ hx).1, (hev y _ hy).1]
          have h1 : (Instr.indexAt T (ren ρ (.slice (some ⟨id, off, some k⟩) n c)) (ren ρ (.int ik (.ofNat jn)))).run P w = .ok (.pointer (some ⟨(ρ id).1, off + jn * i.size, none⟩)) w := by
            have h0 : (0 : Int) ≤ (jn : Int) ∧ (jn : Int) < (n : Int) := ⟨by omega, by omega⟩
            show (Instr.indexAt T (.slice (some (renB ρ ⟨id, off, some k⟩ c)) n (capA ρ ⟨id, off, some k⟩ c)) (.int ik (jn : Int))).run P w = _
            rw [renB_lt hk2]
            simp [Instr.indexAt, asIntOf, Sem.run_bind, run_underlying hu, h0.2, sizeOf, typeInfo, hi, Addr.add_mid]
            intro hh; omega
          rw [run_bind_ok h1]
          rfl
        · have := (hev x _ hx).2 ρ1 ρ2 k'
          simp only [ren, ren1, ren0, renS, renB_lt hk2, Value.slice.injEq, Option.some.injEq, Addr.mk.injEq] at this
          simp only [ren, ren1, ren0, renS, renA, this.1.1]
    · cases h
  · rename_i id off k ik jn
    split at h
    · rename_i n e hu
      split at h
      · rename_i i hi
        cases hb : Nat.blt jn n <;> simp only [hb, cond] at h
        · cases h
        · simp only [Option.some.injEq] at h; subst h
          have hb : jn < n := by simpa [Nat.blt_eq] using hb
          refine OpS.val fun D ρ ac w hev hm => ⟨?_, fun ρ1 ρ2 k' => ?_⟩
          · simp only [execOp, ho]
            rw [(hev x _ hx).1, (hev y _ hy).1]
            have h1 : (Instr.indexAt T (ren ρ (.pointer (some ⟨id, off, some k⟩))) (ren ρ (.int ik (.ofNat jn)))).run P w = .ok (.pointer (some ⟨(ρ id).1, off + jn * i.size, none⟩)) w := by
              have h0 : (0 : Int) ≤ (jn : Int) ∧ (jn : Int) < (n : Int) := ⟨by omega, by omega⟩
              show (Instr.indexAt T (.pointer (some ⟨(ρ id).1, off, none⟩)) (.int ik (jn : Int))).run P w = _
              simp [Instr.indexAt, Instr.sureAddr, asIntOf, Sem.run_bind, run_underlying hu, h0.2, sizeOf, typeInfo, hi, Addr.add_mid]
              intro hh; omega
            rw [run_bind_ok h1]
            rfl
          · have := (hev x _ hx).2 ρ1 ρ2 k'
            simp only [ren, ren1, ren0, renS, renA, Value.pointer.injEq, Option.some.injEq, Addr.mk.injEq] at this
            simp only [ren, ren1, ren0, renS, renA, this.1]
      · cases h
    · cases h
  · cases h
theorem flat_ren {ρ : Nm} {v : Value} (h : flat v = true) : ren ρ v = renS ρ v := by
  cases v <;> simp_all [flat, ren, ren1, ren0]
theorem func_S {o : Oper} {f : Fn} {xs ys : Array Operand} (ho : o.op = .makeFunc f xs ys) {ev : Operand → Option Value} {m : Mem} {nx : Nat} {ts : Ts} {us vs : List Value} (hx : evL ev xs.toList = some us) (hy : evL ev ys.toList = some vs) (h1 : us.all flat = true) (h2 : vs.all flat = true) : OpS P A o ev m nx ts ts (.func f us.toArray vs.toArray) [] nx :=
  OpS.val fun D ρ ac w he hm => by
    obtain ⟨e1, e2⟩ := evL_spec he hx
    obtain ⟨e3, e4⟩ := evL_spec he hy
    have k1 : ∀ ρ : Nm, us.map (ren ρ) = us.map (renS ρ) := fun ρ => List.map_congr_left fun v hv => flat_ren (List.all_eq_true.1 h1 v hv)
    have k2 : ∀ ρ : Nm, vs.map (ren ρ) = vs.map (renS ρ) := fun ρ => List.map_congr_left fun v hv => flat_ren (List.all_eq_true.1 h2 v hv)
    refine ⟨?_, fun ρ1 ρ2 k => ?_⟩
    · have m1 : xs.map ac.eval = (us.map (renS ρ)).toArray := by rw [← k1, ← e1, ← Array.toList_map]
      have m2 : ys.map ac.eval = (vs.map (renS ρ)).toArray := by rw [← k2, ← e3, ← Array.toList_map]
      simp only [execOp, ho, m1, m2]
      rfl
    · simp only [ren, ren1, ren0]
      rw [← k1, ← k1, ← k2, ← k2, List.map_congr_left (fun v hv => e2 v hv ρ1 ρ2 k), List.map_congr_left (fun v hv => e4 v hv ρ1 ρ2 k)]
theorem setAll_size (off : Nat) : ∀ (l : List (Value × Nat)) (cs : Array Value), (setAll off l cs).size = cs.size
  | [], _ => rfl
  | (c, j) :: l, cs => by
    show (setAll off l (cs.setIfInBounds (off + j) c)).size = _
    rw [setAll_size off l]; simp
theorem fill_size {place : Nat → Option (Nat × Nat)} : ∀ (ps : List (Nat × Value)) (cs out : Array Value), Instr.fill place cs ps = some out → out.size = cs.size
  | [], cs, out, h => by
    simp only [Instr.fill, Option.some.injEq] at h
    rw [h]
  | (i, v) :: ps, cs, out, h => by
    simp only [Instr.fill] at h
    split at h
    · cases h
    · rename_i off size hp
      split at h
      · cases h
      · rw [fill_size ps _ out h, ← Array.foldl_toList]
        exact (congrArg Array.size (setAll_eq off v.cells.zipIdx.toList cs)).trans (setAll_size off _ cs)
theorem sl_fit (n o k l c : Nat) : Fit (fun i => i = n) (.slice (some ⟨n, o, some k⟩) l c) := fun ρ1 ρ2 h => by
  have := h n rfl
  simp only [ren, ren1, ren0, renS, renB, capA, this]
theorem cellsOf_eq {e : TypeId} {i : TypeInfo} (h : P.info? e = some i) : P.cellsOf e = i.size := by
  unfold Program.cellsOf; rw [h]; rfl
theorem buildSlice_S {o : Oper} {T : TypeId} {len : Nat} {ps : Array (Nat × Operand)} (ho : o.op = .buildSlice T len ps) {ev : Operand → Option Value} {m : Mem} {nx : Nat} {ts : Ts} {r : Value × Log × Nat} (h : buildSliceA P T len ev ps.toList nx = some r) : OpS P A o ev m nx ts ts r.1 r.2.1 r.2.2 := by
  unfold buildSliceA at h
  split at h
  · rename_i vs hvs
    split at h
    · rename_i e i he
      cases h0 : (Nat.beq len 0 && vs.isEmpty) <;> simp only [h0, cond] at h
      case true =>
        simp only [Option.some.injEq] at h; subst h
        simp only [Bool.and_eq_true] at h0
        obtain ⟨b1, b2⟩ := h0
        have b1 : len = 0 := Nat.eq_of_beq_eq_true b1
        subst b1
        have b2 : vs = [] := by simpa using b2
        subst b2
        obtain ⟨hu, hi, hsz⟩ := elemA_spec he
        have hps : ps = #[] := by
          cases hl : ps.toList with
          | nil => exact Array.toList_eq_nil_iff.1 hl
          | cons x l =>
            rw [hl] at hvs
            simp only [List.map_cons, evL] at hvs
            split at hvs
            · split at hvs <;> cases hvs
            · cases hvs
        subst hps
        refine ⟨Nat.le_succ _, fun e he => Or.inr (by simp only [List.mem_singleton] at he; subst he; exact ⟨Nat.le_refl _, Nat.lt_succ_self _⟩), Sound.refl fun D ρ ac w K Q hev hm hd hk => ?_⟩
        have ha := Aft.alloc (T := e) (nx := nx) (cs := []) hm (fun i hi e => hd i hi ⟨by omega, by show i < nx + 1; omega⟩) (fun v hv => by cases hv) 0 #[] (r := true) (fun _ => by simp) (sl_fit nx 0 1 0 0)
        rw [Array.append_empty] at ha
        refine oper_val ?_ (hk _ _ ha)
        have h1 : (Instr.buildSlice T 0 (#[] : Array (Nat × Value))).run P w = .ok (.slice (some ⟨w.heap.size, 0, none⟩) 0 0) (w.alloc (.cells #[] e)) := by
          simp [Instr.buildSlice, run_underlying hu, sizeOf, typeInfo, hi, newRow, Instr.fill, show Array.range 0 = #[] from rfl]
        simp only [execOp, ho]
        have h2 : ((#[] : Array (Nat × Operand)).map fun (i, x) => (i, ac.eval x)) = #[] := Array.map_empty ..
        rw [h2, run_bind_ok h1]
        simp [ren, ren1, ren0, renS, renB, capA, upd_self, Sem.run, pure]
      split at h
      · rename_i z hz
        cases hb : (vs.all notTuple && z.cells.toList.all real0 && Nat.ble (len * i.size) 16777216 && !Nat.beq (len * i.size) 0) <;> simp only [hb, cond] at h
        · cases h
        · split at h
          · rename_i cells hc
            simp only [Option.some.injEq] at h; subst h
            simp only [Bool.and_eq_true, Bool.not_eq_true'] at hb
            obtain ⟨⟨⟨b1, b2⟩, b3⟩, b4⟩ := hb
            have b3 := Nat.le_of_ble_eq_true b3
            have b4 : ¬ len * i.size = 0 := Nat.ne_of_beq_eq_false b4
            obtain ⟨hu, hi, hsz⟩ := elemA_spec he
            have hn : ∀ p ∈ (ps.toList.map (·.1)).zip vs, notTuple p.2 = true := fun p hp => List.all_eq_true.1 b1 p.2 (List.of_mem_zip hp).2
            have hz' : ∀ x ∈ z.cells.toList, real0 x = true := List.all_eq_true.1 b2
            have hreal : ∀ ρ : Nm, ∀ x ∈ (List.range (len * i.size)).map (fun j => z.cells[j % z.cells.size]!), ren0 ρ x = x := fun ρ x hx => by
              obtain ⟨j, _, rfl⟩ := List.mem_map.1 hx
              by_cases hlt : j % z.cells.size < z.cells.size
              · rw [getElem!_pos z.cells _ hlt]
                exact ren0_real (hz' _ (by simp))
              · rw [getElem!_neg z.cells _ hlt]; rfl
            have hsize : cells.size = len * i.size := by rw [fill_size _ _ _ hc]; simp
            refine ⟨Nat.le_succ _, fun e he => Or.inr (by simp only [List.mem_singleton] at he; subst he; exact ⟨Nat.le_refl _, Nat.lt_succ_self _⟩), Sound.refl fun D ρ ac w K Q hev hm hd hk => ?_⟩
            obtain ⟨e1, e2⟩ := evL_spec hev hvs
            have key : ∀ ρ : Nm, Instr.fill (fun j => some (j * i.size, i.size)) ((Array.range (len * i.size)).map (z.cells[· % z.cells.size]!)) ((ps.toList.map (·.1)).zip (vs.map (ren ρ))) = some (cells.toList.map (ren0 ρ)).toArray := fun ρ => by
              have h1 := fill_map (ρ := ρ) _ _ _ hn hc
              rw [zip_fst] at h1
              rw [← h1]
              congr 1
              have : ((List.range (len * i.size)).map (fun j => z.cells[j % z.cells.size]!)).map (ren0 ρ) = (List.range (len * i.size)).map (fun j => z.cells[j % z.cells.size]!) := by
                rw [List.map_congr_left (g := id) (hreal ρ), List.map_id]
              simp only [List.toList_toArray]
              rw [this]
              apply Array.toList_inj.1
              simp
            have hfit : ∀ v ∈ cells.toList, Fit0 D v := by
              intro v hv ρ1 ρ2 k
              have h1 := key ρ1
              rw [show vs.map (ren ρ1) = vs.map (ren ρ2) from List.map_congr_left fun u hu => e2 u hu ρ1 ρ2 k, key ρ2] at h1
              simp only [Option.some.injEq] at h1
              have h2 : cells.toList.map (ren0 ρ2) = cells.toList.map (ren0 ρ1) := by simpa using h1
              exact (List.map_inj_left.1 h2 v hv).symm
            have ha := Aft.alloc (T := e) (nx := nx) hm (fun i hi e => hd i hi ⟨by omega, by show i < nx + 1; omega⟩) hfit len #[] (r := true) (fun _ => by rw [cellsOf_eq hi]; simp; omega) (sl_fit nx 0 1 len len)
            rw [Array.append_empty] at ha
            refine oper_val ?_ (hk _ _ ha)
            have hp : (ps.map fun (i, x) => (i, ac.eval x)).toList = (ps.toList.map (·.1)).zip (vs.map (ren ρ)) := by
              rw [← e1, Array.toList_map]
              generalize ps.toList = l
              induction l with
              | nil => rfl
              | cons x l ih => simp only [List.map_cons, List.zip_cons_cons]; rw [ih]
            have h1 := run_buildSlice (P := P) w T e len (ps.map fun (i, x) => (i, ac.eval x)) _ i z hu hi hz (by omega) b4 (by rw [hp]; exact key ρ)
            simp only [execOp, ho]
            rw [run_bind_ok h1]
            simp [ren, ren1, ren0, renS, renB, capA, upd_self, Sem.run, pure]
          · cases h
      · cases h
    · cases h
  · cases h
end Rx
end Go.Proofs.YtedfdphapcanoaaGreatDoor
