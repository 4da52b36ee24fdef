/- Several texts of this claim, one behind the other. -/
import Derived.Test.YtedfdphapcanoaaGreatDoorM3
import Derived.Deep.AppendSrc

section
/- A run reckoned by the kernel: slices of the run's own. No program. -/
set_option linter.unusedVariables false
set_option linter.unusedSimpArgs false
namespace Go.Proofs.YtedfdphapcanoaaGreatDoor
open Go.RowKit Go.Lib
namespace Rx
variable {P : Program} {A : Amb}

theorem plainR_S {o : Oper} {ev : Operand → Option Value} {m : Mem} {nx : Nat} {ts : Ts} {r : Value × Log × Nat} (h : plainR P o ev nx = some r) : OpS P A o ev m nx ts ts r.1 r.2.1 r.2.2 := by
  unfold plainR at h
  split at h
  · rename_i v hv
    simp only [Option.some.injEq] at h; subst h
    exact plainOp_S hv
  · cases h
theorem len_S {o : Oper} {args : Array Operand} {ats : Array TypeId} (ho : o.op = .call ⟨.builtin .len, args, ats⟩) {ev : Operand → Option Value} {m : Mem} {nx : Nat} {ts : Ts} {a : Option Addr} {n c : Nat} (hv : evL ev args.toList = some [.slice a n c]) {e : TypeId} (ht : (ats.toList[0]?).bind P.underlying = some (.slice e)) : OpS P A o ev m nx ts ts (.int .i64 n) [] nx :=
  OpS.val fun D ρ ac w he hm => by
    obtain ⟨e1, e2⟩ := evL_spec he hv
    refine ⟨?_, Fit.real rfl⟩
    obtain ⟨a', c', hs⟩ := ren_slice ρ a n c
    have h1 : args.map ac.eval = #[.slice a' n c'] := by
      have : (args.map ac.eval).toList = [.slice a' n c'] := by rw [Array.toList_map, e1, ← hs]; rfl
      rw [← Array.toArray_toList (xs := args.map ac.eval), this]
    cases h0 : ats.toList[0]? with
    | none => rw [h0] at ht; cases ht
    | some t =>
      rw [h0] at ht
      simp only [Option.bind_some] at ht
      have h2 : ats[0]? = some t := by rw [← Array.getElem?_toList]; exact h0
      simp [execOp, ho, resolve, invoke, builtin, h1, Sem.run_bind, Builtin.len_, h2, run_underlying ht, goInt, ren, ren1, ren0, renS]
theorem elemA_spec {T e : TypeId} {i : TypeInfo} (h : elemA P T = some (e, i)) : P.underlying T = some (.slice e) ∧ P.info? e = some i ∧ i.size ≠ 0 := by
  unfold elemA at h
  split at h
  · rename_i e' hu
    split at h
    · rename_i j hj
      cases hb : Nat.beq j.size 0 <;> simp only [hb, cond] at h
      · simp only [Option.some.injEq, Prod.mk.injEq] at h
        obtain ⟨rfl, rfl⟩ := h
        exact ⟨hu, hj, Nat.ne_of_beq_eq_false hb⟩
      · cases h
    · cases h
  · cases h
theorem renB_lt {ρ : Nm} {id off q c : Nat} (h : q < 2) : renB ρ ⟨id, off, some q⟩ c = ⟨(ρ id).1, off, none⟩ := by
  match q, h with
  | 0, _ => rfl
  | 1, _ => rfl
theorem index_S {o : Oper} {T : TypeId} {x y : Operand} (ho : o.op = .indexAddr T x y) {ev : Operand → Option Value} {m : Mem} {nx : Nat} {ts : Ts} {a j v : Value} (hx : ev x = some a) (hy : ev y = some j) (h : indexA P T a j = some v) : OpS P A o ev m nx ts ts v [] nx := by
  unfold indexA at h
  split at h
  · rename_i id off k n c ik jn
    split at h
    · rename_i e i he
      cases hb : (Nat.blt k 2 && Nat.blt jn n) <;> simp only [hb, cond] at h
      · cases h
      · simp only [Option.some.injEq] at h; subst h
        simp only [Bool.and_eq_true] at hb
        have hk2 : k < 2 := by simpa [Nat.blt_eq] using hb.1
        have hb : jn < n := by simpa [Nat.blt_eq] using hb.2
        obtain ⟨hu, hi, hz⟩ := elemA_spec he
        refine OpS.val fun D ρ ac w hev hm => ⟨?_, fun ρ1 ρ2 k' => ?_⟩
        · simp only [execOp, ho]
          rw [(hev x _ hx).1, (hev y _ hy).1]
          have h1 : (Instr.indexAt T (ren ρ (.slice (some ⟨id, off, some k⟩) n c)) (ren ρ (.int ik (.ofNat jn)))).run P w = .ok (.pointer (some ⟨(ρ id).1, off + jn * i.size, none⟩)) w := by
            have h0 : (0 : Int) ≤ (jn : Int) ∧ (jn : Int) < (n : Int) := ⟨by omega, by omega⟩
            show (Instr.indexAt T (.slice (some (renB ρ ⟨id, off, some k⟩ c)) n (capA ρ ⟨id, off, some k⟩ c)) (.int ik (jn : Int))).run P w = _
            rw [renB_lt hk2]
            simp [Instr.indexAt, asIntOf, Sem.run_bind, run_underlying hu, h0.2, sizeOf, typeInfo, hi, Addr.add_mid]
            intro hh; omega
          rw [run_bind_ok h1]
          rfl
        · have := (hev x _ hx).2 ρ1 ρ2 k'
          simp only [ren, ren1, ren0, renS, renB_lt hk2, Value.slice.injEq, Option.some.injEq, Addr.mk.injEq] at this
          simp only [ren, ren1, ren0, renS, renA, this.1.1]
    · cases h
  · rename_i id off k ik jn
    split at h
    · rename_i n e hu
      split at h
      · rename_i i hi
        cases hb : Nat.blt jn n <;> simp only [hb, cond] at h
        · cases h
        · simp only [Option.some.injEq] at h; subst h
          have hb : jn < n := by simpa [Nat.blt_eq] using hb
          refine OpS.val fun D ρ ac w hev hm => ⟨?_, fun ρ1 ρ2 k' => ?_⟩
          · simp only [execOp, ho]
            rw [(hev x _ hx).1, (hev y _ hy).1]
            have h1 : (Instr.indexAt T (ren ρ (.pointer (some ⟨id, off, some k⟩))) (ren ρ (.int ik (.ofNat jn)))).run P w = .ok (.pointer (some ⟨(ρ id).1, off + jn * i.size, none⟩)) w := by
              have h0 : (0 : Int) ≤ (jn : Int) ∧ (jn : Int) < (n : Int) := ⟨by omega, by omega⟩
              show (Instr.indexAt T (.pointer (some ⟨(ρ id).1, off, none⟩)) (.int ik (jn : Int))).run P w = _
              simp [Instr.indexAt, Instr.sureAddr, asIntOf, Sem.run_bind, run_underlying hu, h0.2, sizeOf, typeInfo, hi, Addr.add_mid]
              intro hh; omega
            rw [run_bind_ok h1]
            rfl
          · have := (hev x _ hx).2 ρ1 ρ2 k'
            simp only [ren, ren1, ren0, renS, renA, Value.pointer.injEq, Option.some.injEq, Addr.mk.injEq] at this
            simp only [ren, ren1, ren0, renS, renA, this.1]
      · cases h
    · cases h
  · cases h
theorem flat_ren {ρ : Nm} {v : Value} (h : flat v = true) : ren ρ v = renS ρ v := by
  cases v <;> simp_all [flat, ren, ren1, ren0]
theorem func_S {o : Oper} {f : Fn} {xs ys : Array Operand} (ho : o.op = .makeFunc f xs ys) {ev : Operand → Option Value} {m : Mem} {nx : Nat} {ts : Ts} {us vs : List Value} (hx : evL ev xs.toList = some us) (hy : evL ev ys.toList = some vs) (h1 : us.all flat = true) (h2 : vs.all flat = true) : OpS P A o ev m nx ts ts (.func f us.toArray vs.toArray) [] nx :=
  OpS.val fun D ρ ac w he hm => by
    obtain ⟨e1, e2⟩ := evL_spec he hx
    obtain ⟨e3, e4⟩ := evL_spec he hy
    have k1 : ∀ ρ : Nm, us.map (ren ρ) = us.map (renS ρ) := fun ρ => List.map_congr_left fun v hv => flat_ren (List.all_eq_true.1 h1 v hv)
    have k2 : ∀ ρ : Nm, vs.map (ren ρ) = vs.map (renS ρ) := fun ρ => List.map_congr_left fun v hv => flat_ren (List.all_eq_true.1 h2 v hv)
    refine ⟨?_, fun ρ1 ρ2 k => ?_⟩
    · have m1 : xs.map ac.eval = (us.map (renS ρ)).toArray := by rw [← k1, ← e1, ← Array.toList_map]
      have m2 : ys.map ac.eval = (vs.map (renS ρ)).toArray := by rw [← k2, ← e3, ← Array.toList_map]
      simp only [execOp, ho, m1, m2]
      rfl
    · simp only [ren, ren1, ren0]
      rw [← k1, ← k1, ← k2, ← k2, List.map_congr_left (fun v hv => e2 v hv ρ1 ρ2 k), List.map_congr_left (fun v hv => e4 v hv ρ1 ρ2 k)]
theorem setAll_size (off : Nat) : ∀ (l : List (Value × Nat)) (cs : Array Value), (setAll off l cs).size = cs.size
  | [], _ => rfl
  | (c, j) :: l, cs => by
    show (setAll off l (cs.setIfInBounds (off + j) c)).size = _
    rw [setAll_size off l]; simp
theorem fill_size {place : Nat → Option (Nat × Nat)} : ∀ (ps : List (Nat × Value)) (cs out : Array Value), Instr.fill place cs ps = some out → out.size = cs.size
  | [], cs, out, h => by
    simp only [Instr.fill, Option.some.injEq] at h
    rw [h]
  | (i, v) :: ps, cs, out, h => by
    simp only [Instr.fill] at h
    split at h
    · cases h
    · rename_i off size hp
      split at h
      · cases h
      · rw [fill_size ps _ out h, ← Array.foldl_toList]
        exact (congrArg Array.size (setAll_eq off v.cells.zipIdx.toList cs)).trans (setAll_size off _ cs)
theorem sl_fit (n o k l c : Nat) : Fit (fun i => i = n) (.slice (some ⟨n, o, some k⟩) l c) := fun ρ1 ρ2 h => by
  have := h n rfl
  simp only [ren, ren1, ren0, renS, renB, capA, this]
theorem cellsOf_eq {e : TypeId} {i : TypeInfo} (h : P.info? e = some i) : P.cellsOf e = i.size := by
  unfold Program.cellsOf; rw [h]; rfl
theorem buildSlice_S {o : Oper} {T : TypeId} {len : Nat} {ps : Array (Nat × Operand)} (ho : o.op = .buildSlice T len ps) {ev : Operand → Option Value} {m : Mem} {nx : Nat} {ts : Ts} {r : Value × Log × Nat} (h : buildSliceA P T len ev ps.toList nx = some r) : OpS P A o ev m nx ts ts r.1 r.2.1 r.2.2 := by
  unfold buildSliceA at h
  split at h
  · rename_i vs hvs
    split at h
    · rename_i e i he
      cases h0 : (Nat.beq len 0 && vs.isEmpty) <;> simp only [h0, cond] at h
      case true =>
        simp only [Option.some.injEq] at h; subst h
        simp only [Bool.and_eq_true] at h0
        obtain ⟨b1, b2⟩ := h0
        have b1 : len = 0 := Nat.eq_of_beq_eq_true b1
        subst b1
        have b2 : vs = [] := by simpa using b2
        subst b2
        obtain ⟨hu, hi, hsz⟩ := elemA_spec he
        have hps : ps = #[] := by
          cases hl : ps.toList with
          | nil => exact Array.toList_eq_nil_iff.1 hl
          | cons x l =>
            rw [hl] at hvs
            simp only [List.map_cons, evL] at hvs
            split at hvs
            · split at hvs <;> cases hvs
            · cases hvs
        subst hps
        refine ⟨Nat.le_succ _, fun e he => Or.inr (by simp only [List.mem_singleton] at he; subst he; exact ⟨Nat.le_refl _, Nat.lt_succ_self _⟩), Sound.refl fun D ρ ac w K Q hev hm hd hk => ?_⟩
        have ha := Aft.alloc (T := e) (nx := nx) (cs := []) hm (fun i hi e => hd i hi ⟨by omega, by show i < nx + 1; omega⟩) (fun v hv => by cases hv) 0 #[] (r := true) (fun _ => by simp) (sl_fit nx 0 1 0 0)
        rw [Array.append_empty] at ha
        refine oper_val ?_ (hk _ _ ha)
        have h1 : (Instr.buildSlice T 0 (#[] : Array (Nat × Value))).run P w = .ok (.slice (some ⟨w.heap.size, 0, none⟩) 0 0) (w.alloc (.cells #[] e)) := by
          simp [Instr.buildSlice, run_underlying hu, sizeOf, typeInfo, hi, newRow, Instr.fill, show Array.range 0 = #[] from rfl]
        simp only [execOp, ho]
        have h2 : ((#[] : Array (Nat × Operand)).map fun (i, x) => (i, ac.eval x)) = #[] := Array.map_empty ..
        rw [h2, run_bind_ok h1]
        simp [ren, ren1, ren0, renS, renB, capA, upd_self, Sem.run, pure]
      split at h
      · rename_i z hz
        cases hb : (vs.all notTuple && z.cells.toList.all real0 && Nat.ble (len * i.size) 16777216 && !Nat.beq (len * i.size) 0) <;> simp only [hb, cond] at h
        · cases h
        · split at h
          · rename_i cells hc
            simp only [Option.some.injEq] at h; subst h
            simp only [Bool.and_eq_true, Bool.not_eq_true'] at hb
            obtain ⟨⟨⟨b1, b2⟩, b3⟩, b4⟩ := hb
            have b3 := Nat.le_of_ble_eq_true b3
            have b4 : ¬ len * i.size = 0 := Nat.ne_of_beq_eq_false b4
            obtain ⟨hu, hi, hsz⟩ := elemA_spec he
            have hn : ∀ p ∈ (ps.toList.map (·.1)).zip vs, notTuple p.2 = true := fun p hp => List.all_eq_true.1 b1 p.2 (List.of_mem_zip hp).2
            have hz' : ∀ x ∈ z.cells.toList, real0 x = true := List.all_eq_true.1 b2
            have hreal : ∀ ρ : Nm, ∀ x ∈ (List.range (len * i.size)).map (fun j => z.cells[j % z.cells.size]!), ren0 ρ x = x := fun ρ x hx => by
              obtain ⟨j, _, rfl⟩ := List.mem_map.1 hx
              by_cases hlt : j % z.cells.size < z.cells.size
              · rw [getElem!_pos z.cells _ hlt]
                exact ren0_real (hz' _ (by simp))
              · rw [getElem!_neg z.cells _ hlt]; rfl
            have hsize : cells.size = len * i.size := by rw [fill_size _ _ _ hc]; simp
            refine ⟨Nat.le_succ _, fun e he => Or.inr (by simp only [List.mem_singleton] at he; subst he; exact ⟨Nat.le_refl _, Nat.lt_succ_self _⟩), Sound.refl fun D ρ ac w K Q hev hm hd hk => ?_⟩
            obtain ⟨e1, e2⟩ := evL_spec hev hvs
            have key : ∀ ρ : Nm, Instr.fill (fun j => some (j * i.size, i.size)) ((Array.range (len * i.size)).map (z.cells[· % z.cells.size]!)) ((ps.toList.map (·.1)).zip (vs.map (ren ρ))) = some (cells.toList.map (ren0 ρ)).toArray := fun ρ => by
              have h1 := fill_map (ρ := ρ) _ _ _ hn hc
              rw [zip_fst] at h1
              rw [← h1]
              congr 1
              have : ((List.range (len * i.size)).map (fun j => z.cells[j % z.cells.size]!)).map (ren0 ρ) = (List.range (len * i.size)).map (fun j => z.cells[j % z.cells.size]!) := by
                rw [List.map_congr_left (g := id) (hreal ρ), List.map_id]
              simp only [List.toList_toArray]
              rw [this]
              apply Array.toList_inj.1
              simp
            have hfit : ∀ v ∈ cells.toList, Fit0 D v := by
              intro v hv ρ1 ρ2 k
              have h1 := key ρ1
              rw [show vs.map (ren ρ1) = vs.map (ren ρ2) from List.map_congr_left fun u hu => e2 u hu ρ1 ρ2 k, key ρ2] at h1
              simp only [Option.some.injEq] at h1
              have h2 : cells.toList.map (ren0 ρ2) = cells.toList.map (ren0 ρ1) := by simpa using h1
              exact (List.map_inj_left.1 h2 v hv).symm
            have ha := Aft.alloc (T := e) (nx := nx) hm (fun i hi e => hd i hi ⟨by omega, by show i < nx + 1; omega⟩) hfit len #[] (r := true) (fun _ => by rw [cellsOf_eq hi]; simp; omega) (sl_fit nx 0 1 len len)
            rw [Array.append_empty] at ha
            refine oper_val ?_ (hk _ _ ha)
            have hp : (ps.map fun (i, x) => (i, ac.eval x)).toList = (ps.toList.map (·.1)).zip (vs.map (ren ρ)) := by
              rw [← e1, Array.toList_map]
              generalize ps.toList = l
              induction l with
              | nil => rfl
              | cons x l ih => simp only [List.map_cons, List.zip_cons_cons]; rw [ih]
            have h1 := run_buildSlice (P := P) w T e len (ps.map fun (i, x) => (i, ac.eval x)) _ i z hu hi hz (by omega) b4 (by rw [hp]; exact key ρ)
            simp only [execOp, ho]
            rw [run_bind_ok h1]
            simp [ren, ren1, ren0, renS, renB, capA, upd_self, Sem.run, pure]
          · cases h
      · cases h
    · cases h
  · cases h
end Rx
end Go.Proofs.YtedfdphapcanoaaGreatDoor
end

section
/- A run reckoned by the kernel: append onto a row of the run's own. No program. -/
set_option linter.unusedVariables false
set_option linter.unusedSimpArgs false
namespace Go.Proofs.YtedfdphapcanoaaGreatDoor
open Go.RowKit Go.Lib
namespace Rx
variable {P : Program} {A : Amb}

theorem heap_setCells (b : Nat) {T : TypeId} {fr : Nat × Nat} : ∀ (vs : List Value) (o : Nat) (w : World) (C : Array Value), w.heap[b]? = some (.cells C T fr) → o + vs.length ≤ C.size → (w.setCells b o vs).heap[b]? = some (.cells (splice C.toList o vs).toArray T fr)
  | [], o, w, C, h, _ => by rw [splice_nil]; exact h
  | v :: vs, o, w, C, h, hl => by
    simp only [List.length_cons] at hl
    rw [splice_cons (by simpa using hl)]
    have h1 : (w.setCell ⟨b, o, none⟩ v).heap[b]? = some (.cells (C.setIfInBounds o v) T fr) := by
      simp only [World.setCell, Array.getElem?_modify, h, if_true, Option.map_some]
      simp
    have := heap_setCells b vs (o + 1) _ _ h1 (by simp; omega)
    rw [Array.toList_setIfInBounds] at this
    exact this
theorem Aft.undrew {D : Nat → Prop} {ρ ρ' : Nm} {m : Mem} {nx nx' : Nat} {w w' : World} {v : Value} {l : Log} (h : Aft P A D ρ m nx w.drew v l nx' ρ' w') : Aft P A D ρ m nx w v l nx' ρ' w' :=
  ⟨h.same, h.fit, h.mem, Kept.trans (Kept.drew (fun _ => False) w) h.kept (fun _ _ k => k.elim) (fun _ _ k => k), h.new⟩
theorem MemOK.drew {D : Nat → Prop} {ρ : Nm} {m : Mem} {w : World} (h : MemOK P A D ρ m w) : MemOK P A D ρ m w.drew := h.kept (Kept.drew (fun _ => False) w) (fun _ k => k.elim) (fun _ _ _ k => k)
theorem put_none {m : Mem} {id j : Nat} {b : Blk} (h : m.put id none j = some b) : m j = some b ∧ j ≠ id := by
  simp only [Mem.put] at h
  cases hb : Nat.beq j id <;> simp only [hb, cond] at h
  · exact ⟨h, Nat.ne_of_beq_eq_false hb⟩
  · cases h
theorem MemOK.drop {D : Nat → Prop} {ρ : Nm} {m : Mem} {w : World} (h : MemOK P A D ρ m w) (id : Nat) : MemOK P A D ρ (m.put id none) w :=
  ⟨h.s, fun k => h.dom (put_none k).1, fun k => h.fit (put_none k).1, fun k => h.lies (put_none k).1, fun k l => h.inj (put_none k).1 (put_none l).1⟩
theorem Aft.drop {D : Nat → Prop} {ρ ρ' : Nm} {m : Mem} {nx nx' id : Nat} {w w' : World} {v : Value} {l : Log} (h : Aft P A D ρ (m.put id none) nx w v l nx' ρ' w') : Aft P A D ρ m nx w v (l ++ [(id, none)]) nx' ρ' w' := by
  have e : m.add (l ++ [(id, none)]) = (m.put id none).add l := (add_append [(id, none)] l).symm
  have ho : ∀ b, owns ρ (m.put id none) b → owns ρ m b := fun b ⟨i, c, hi, hb⟩ => ⟨i, c, (put_none hi).1, hb⟩
  exact ⟨h.same, h.fit, by rw [e]; exact h.mem, h.kept.mono fun b _ k => ho b k, fun i b h1 h2 hi => (h.new i b h1 h2 (by rw [← e]; exact hi)).imp (fun h => h) (ho _)⟩
/-- the row grows where it lies -/
theorem Aft.grown {D : Nat → Prop} {ρ : Nm} {m : Mem} {nx : Nat} {w : World} {id : Nat} {cs new : List Value} {T : TypeId} {n k : Nat} {v : Value} (h : MemOK P A D ρ m w) (hD : ∀ i, D i → i ≠ nx) (hi : m id = some (cs, T, true)) (hn : n * P.cellsOf T ≤ cs.length) (hk : new.length = k * P.cellsOf T) (hroom : n + k ≤ (ρ id).2) (hc : ∀ v ∈ new, Fit0 D v) (hfv : Fit (fun i => i = nx) v) :
    Aft P A D ρ m nx w v [(nx, some (cs.take (n * P.cellsOf T) ++ new, T, true)), (id, none)] (nx + 1) (upd ρ nx (ρ id)) (w.setCells (ρ id).1 (n * P.cellsOf T) (new.map (ren0 ρ))) := by
  have hρ : ∀ i, D i → ρ i = upd ρ nx (ρ id) i := fun i hi => (upd_ne ρ _ (hD i hi)).symm
  have hnn := upd_self ρ nx (ρ id)
  have hu : ∀ i, i ≠ nx → upd ρ nx (ρ id) i = ρ i := fun i hi => upd_ne ρ _ hi
  generalize upd ρ nx (ρ id) = ρ' at *
  have hkp := setCells_kept (ρ id).1 (new.map (ren0 ρ)) (n * P.cellsOf T) w
  have hid := (h.dom hi).1
  have hm : ∀ i b, m i = some b → i ≠ nx := fun i b e => hD i (h.dom e).1
  have key : ∀ {i : Nat} {b : Blk}, m.add [(nx, some (cs.take (n * P.cellsOf T) ++ new, T, true)), (id, none)] i = some b → (i = nx ∧ b = (cs.take (n * P.cellsOf T) ++ new, T, true)) ∨ (i ≠ nx ∧ i ≠ id ∧ m i = some b) := fun {i b} e => by
    simp only [Mem.add] at e
    rw [show Mem.put (Mem.put m id none) nx (some (cs.take (n * P.cellsOf T) ++ new, T, true)) i = cond (Nat.beq i nx) (some (cs.take (n * P.cellsOf T) ++ new, T, true)) (m.put id none i) from rfl] at e
    cases hb : Nat.beq i nx <;> simp only [hb, cond] at e
    · obtain ⟨e1, e2⟩ := put_none e
      exact Or.inr ⟨Nat.ne_of_beq_eq_false hb, e2, e1⟩
    · simp only [Option.some.injEq] at e
      exact Or.inl ⟨Nat.eq_of_beq_eq_true hb, e.symm⟩
  have hlies : Lies ρ' (w.setCells (ρ id).1 (n * P.cellsOf T) (new.map (ren0 ρ))) (ρ id).1 (cs.take (n * P.cellsOf T) ++ new) T (P.cellsOf T) (ρ id).2 true := by
    obtain ⟨rest, fr, hb, hf, hr⟩ := h.lies hi
    obtain ⟨r1, r2⟩ := hr rfl
    have htot : (n + k) * P.cellsOf T ≤ cs.length + rest.size := Nat.le_trans (Nat.mul_le_mul_right _ hroom) r2
    rw [Nat.add_mul] at htot
    have h1 := heap_setCells (ρ id).1 (new.map (ren0 ρ)) (n * P.cellsOf T) w _ hb (by simp; omega)
    have hfit : ∀ v ∈ cs.take (n * P.cellsOf T) ++ new, Fit0 D v := fun v hv => by
      rcases List.mem_append.1 hv with hv | hv
      · exact h.fit hi v (List.mem_of_mem_take hv)
      · exact hc v hv
    have hmap : (cs.take (n * P.cellsOf T) ++ new).map (ren0 ρ') = (cs.take (n * P.cellsOf T) ++ new).map (ren0 ρ) := List.map_congr_left fun v hv => (hfit v hv ρ ρ' hρ).symm
    refine ⟨(((cs.map (ren0 ρ)).toArray ++ rest).toList.drop (n * P.cellsOf T + new.length)).toArray, fr, ?_, fun j hj => hf j ?_, fun _ => ⟨?_, ?_⟩⟩
    · rw [h1]
      congr 2
      rw [hmap]
      unfold splice
      apply Array.toList_inj.1
      simp only [Array.toList_append, List.toList_toArray, List.map_append, List.length_map, List.append_assoc]
      congr 1
      rw [List.take_append_of_le_length (by simpa using hn), List.map_take]
    · simp at hj; omega
    · simp only [List.length_append, List.length_take]
      rw [Nat.min_eq_left hn, hk, ← Nat.add_mul]
      exact Nat.mul_le_mul_right _ hroom
    · simp only [List.length_append, List.length_take, List.size_toArray, List.length_drop, Array.length_toList, Array.size_append, List.length_map]
      rw [Nat.min_eq_left hn]
      omega
  refine ⟨fun i hi => hu i (by omega), hfv.mono fun i hi => Or.inr ⟨by omega, by omega⟩, ⟨A.keep h.s (hkp.mono fun b _ e => e ▸ (h.dom hi).2), fun {i b} e => ?_, fun {i ds U r'} e v hv => ?_, fun {i ds U r'} e => ?_, fun {i j b c} e f hij => ?_⟩, hkp.mono fun b _ e => ⟨id, _, hi, e⟩, fun i b h1 h2 e => Or.inr ?_⟩
  · rcases key e with ⟨rfl, e2⟩ | ⟨h1, h2, e2⟩
    · exact ⟨Or.inr ⟨by omega, by omega⟩, by rw [hnn]; exact (h.dom hi).2⟩
    · exact ⟨Or.inl (h.dom e2).1, by rw [← hρ i (h.dom e2).1]; exact (h.dom e2).2⟩
  · rcases key e with ⟨rfl, e2⟩ | ⟨h1, h2, e2⟩
    · obtain ⟨rfl, _⟩ := Prod.mk.inj e2
      rcases List.mem_append.1 hv with hv | hv
      · exact (h.fit hi v (List.mem_of_mem_take hv)).mono fun _ => Or.inl
      · exact (hc v hv).mono fun _ => Or.inl
    · exact (h.fit e2 v hv).mono fun _ => Or.inl
  · rcases key e with ⟨rfl, e2⟩ | ⟨h1, h2, e2⟩
    · obtain ⟨rfl, e3⟩ := Prod.mk.inj e2
      obtain ⟨rfl, rfl⟩ := Prod.mk.inj e3
      rw [hnn]
      exact hlies
    · rw [← hρ i (h.dom e2).1]
      exact ((h.lies e2).same (hkp.block _ (h.lies e2).lt (h.inj e2 hi h2))).ren (h.fit e2) hρ
  · rcases key e with ⟨rfl, e2⟩ | ⟨h1, h2, e2⟩ <;> rcases key f with ⟨hj, f2⟩ | ⟨h3, h4, f2⟩
    · exact absurd hj.symm hij
    · rw [hnn, ← hρ j (h.dom f2).1]; exact h.inj hi f2 (fun e => h4 e.symm)
    · subst hj; rw [hnn, ← hρ i (h.dom e2).1]; exact h.inj e2 hi h2
    · rw [← hρ i (h.dom e2).1, ← hρ j (h.dom f2).1]; exact h.inj e2 f2 hij
  · rw [show i = nx by omega, hnn]
    exact ⟨id, _, hi, rfl⟩
theorem srcA_spec {D : Nat → Prop} {ρ : Nm} {m : Mem} {w : World} {sz : Nat} {xT : TypeId} {x : Value} {k : Nat} {new : List Value} (hm : MemOK P A D ρ m w) (h : srcA P m sz xT x = some (k, new)) :
    Src P sz xT (ren ρ x) k (new.map (ren0 ρ)) w ∧ ∀ v ∈ new, Fit0 D v := by
  unfold srcA at h
  split at h
  · rename_i e hu
    split at h
    · simp only [Option.some.injEq, Prod.mk.injEq] at h
      obtain ⟨rfl, rfl⟩ := h
      exact ⟨Src.ofNil w hu _, fun _ h => by cases h⟩
    · rename_i j off q k' c
      split at h
      · rename_i cs bl hj
        obtain ⟨T, r⟩ := bl
        cases hb : (Nat.blt q 2 && Nat.ble (off + k' * sz) cs.length && cs.all scal) <;> simp only [hb, cond] at h
        · cases h
        · simp only [Option.some.injEq, Prod.mk.injEq] at h
          obtain ⟨rfl, rfl⟩ := h
          simp only [Bool.and_eq_true] at hb
          have hq : q < 2 := by simpa [Nat.blt_eq] using hb.1.1
          have hb1 := Nat.le_of_ble_eq_true hb.1.2
          have hl := hm.lies hj
          have hre : ren ρ (.slice (some ⟨j, off, some q⟩) k' c) = .slice (some ⟨(ρ j).1, off, none⟩) k' (capA ρ ⟨j, off, some q⟩ c) := by
            simp only [ren, ren1, ren0, renS, renB_lt hq]
          rw [hre]
          refine ⟨Src.ofSlice w hu ⟨(ρ j).1, off, none⟩ k' _ _ (by simp [cut]; omega) (fun i u hu => ?_) (fun u hu => ?_), fun v hv => hm.fit hj v (List.mem_of_mem_drop (List.mem_of_mem_take hv))⟩
          · rw [Addr.add_mid]
            rw [List.getElem?_map] at hu
            cases hc : (cut cs off (k' * sz))[i]? with
            | none => rw [hc] at hu; cases hu
            | some y =>
              rw [hc] at hu
              simp only [Option.map_some, Option.some.injEq] at hu
              subst hu
              refine hl.cell ?_
              unfold cut at hc
              rw [List.getElem?_take] at hc
              split at hc
              · rw [List.getElem?_drop] at hc; exact hc
              · cases hc
          · obtain ⟨y, hy, rfl⟩ := List.mem_map.1 hu
            exact oneCell_ren0 (List.all_eq_true.1 hb.2 y (List.mem_of_mem_drop (List.mem_of_mem_take hy)))
      · cases h
    · cases h
  · rename_i hu
    split at h
    · rename_i s
      cases hb : Nat.beq sz 1 <;> simp only [hb, cond] at h
      · cases h
      · simp only [Option.some.injEq, Prod.mk.injEq] at h
        obtain ⟨rfl, rfl⟩ := h
        have : sz = 1 := Nat.eq_of_beq_eq_true hb
        subst this
        have hr : ∀ (ρ : Nm), ∀ v ∈ byteC s, ren0 ρ v = v := fun ρ v hv => by
          obtain ⟨b, _, rfl⟩ := List.mem_map.1 hv
          rfl
        have : (byteC s).map (ren0 ρ) = byteCells s := by
          rw [List.map_congr_left (g := fun v => v) (hr ρ), List.map_id']; rfl
        rw [this]
        exact ⟨Src.ofString w hu s, fun v hv ρ1 ρ2 _ => by rw [hr ρ1 v hv, hr ρ2 v hv]⟩
    · cases h
  · cases h
theorem append_S {o : Oper} {args : Array Operand} {ats : Array TypeId} (ho : o.op = .call ⟨.builtin .append, args, ats⟩) {ev : Operand → Option Value} {m : Mem} {nx : Nat} {ts : Ts} {s x : Value} (hv : evL ev args.toList = some [s, x]) {r : Value × Log × Nat} (h : appendA P ats.toList m nx s x = some r) : OpS P A o ev m nx ts ts r.1 r.2.1 r.2.2 := by
  unfold appendA at h
  split at h
  · rename_i sT xT hats
    split at h
    · rename_i e i he
      split at h
      · rename_i z hz
        split at h
        · rename_i k new hsrc
          cases hb : (Nat.beq z.cells.size i.size && Nat.ble i.bytes 100000 && Nat.ble k 100000) <;> simp only [hb, cond] at h
          · cases h
          · simp only [Bool.and_eq_true] at hb
            obtain ⟨⟨b1, b2⟩, b3⟩ := hb
            have b1 : z.cells.size = i.size := Nat.eq_of_beq_eq_true b1
            have b2 := Nat.le_of_ble_eq_true b2
            have b3 := Nat.le_of_ble_eq_true b3
            obtain ⟨hu, hi, hsz⟩ := elemA_spec he
            have hce := cellsOf_eq hi
            have hats : ats = #[sT, xT] := by rw [← Array.toArray_toList (xs := ats), hats]
            have hop : ∀ {D : Nat → Prop} {ρ : Nm} {ac : Act} {w w' : World} {v : Value}, EvOK D ρ ev ac → (Builtin.append_ #[sT, xT] o.type #[ren ρ s, ren ρ x]).run P w = .ok v w' → (execOp ac.eval o).run P w = .ok (.value v) w' := fun {D ρ ac w w' v} hev hr => by
              obtain ⟨e1, e2⟩ := evL_spec hev hv
              have h1 : args.map ac.eval = #[ren ρ s, ren ρ x] := by
                rw [← Array.toArray_toList (xs := args.map ac.eval), Array.toList_map, e1]; rfl
              simp [execOp, ho, resolve, invoke, builtin, h1, hats, Sem.run_bind, hr]
            split at h
            · -- onto nil
              cases hk0 : Nat.beq k 0 <;> simp only [hk0, cond, Option.some.injEq] at h <;> subst h
              · have hk0 : k ≠ 0 := Nat.ne_of_beq_eq_false hk0
                refine ⟨Nat.le_succ _, fun e he => Or.inr (by simp only [List.mem_singleton] at he; subst he; exact ⟨Nat.le_refl _, Nat.lt_succ_self _⟩), Sound.refl fun D ρ ac w K Q hev hm hd hk => ?_⟩
                obtain ⟨s1, s2⟩ := srcA_spec hm hsrc
                have hg := run_append_grow_src (P := P) w sT xT o.type e i z hu hi hz none 0 0 [] (run_firstCells_none w.drew i.size 0 0 0) (ren ρ x) k (new.map (ren0 ρ)) s1 (by omega) (by omega) (growslice_fits (by omega) (by
                  have : (0 + k) * i.bytes ≤ 100000 * 100000 := Nat.mul_le_mul (by omega) b2
                  omega))
                have hcap := grownCap_ge w (0 + k) 0 e
                have ha := Aft.alloc (T := e) (v := .slice (some ⟨nx, 0, some 0⟩) k 0) (r := true) hm.drew (fun i hi e => hd i hi ⟨by omega, by show i < nx + 1; omega⟩) s2 (grownCap w (0 + k) 0 e) (Builtin.zeroCells z.cells (grownCap w (0 + k) 0 e - (0 + k))) (fun _ => by
                  have hl : new.length = k * i.size := by have := s1.newsLen; simpa using this
                  rw [hce, size_zeroCells, b1, hl]
                  constructor
                  · exact Nat.mul_le_mul_right _ (by omega)
                  · rw [← Nat.add_mul]; exact Nat.mul_le_mul_right _ (by omega)) (sl_fit nx 0 0 k 0)
                refine oper_val (hop hev hg) ?_
                have := hk _ _ ha.undrew
                simpa [ren, ren1, ren0, renS, renB, capA, upd_self] using this
              · have hk0 : k = 0 := Nat.eq_of_beq_eq_true hk0
                subst hk0
                refine OpS.val fun D ρ ac w hev hm => ⟨?_, Fit.real rfl⟩
                obtain ⟨s1, s2⟩ := srcA_spec hm hsrc
                refine hop hev ?_
                show (Builtin.append_ #[sT, xT] o.type #[.slice none 0 0, ren ρ x]).run P w = .ok (.slice none 0 0) w
                rcases s1.kind with ⟨e', hk⟩ | hk <;> simp [Builtin.append_, run_underlying hu, run_underlying hk, sizeOf, typeInfo, hi, s1.len, s1.cells]
            · rename_i id q n c
              split at h
              · rename_i cs e' rw' hid
                cases hbb : (Nat.blt q 2 && rw' && Nat.beq e e' && Nat.ble (n * i.size) cs.length && Nat.ble n 100000 && roomy q c (n + k)) <;> simp only [hbb] at h
                · cases h
                · simp only [Option.some.injEq] at h
                  subst h
                  simp only [Bool.and_eq_true] at hbb
                  obtain ⟨⟨⟨⟨⟨c0, c1⟩, c2⟩, c3⟩, c4⟩, c5⟩ := hbb
                  have hq2 : q < 2 := by simpa [Nat.blt_eq] using c0
                  unfold roomy at c5
                  subst c1
                  have c2 : e = e' := Nat.eq_of_beq_eq_true c2
                  subst c2
                  have c3 := Nat.le_of_ble_eq_true c3
                  have c4 := Nat.le_of_ble_eq_true c4
                  refine ⟨Nat.le_succ _, fun e he => ?_, Sound.refl fun D ρ ac w K Q hev hm hd hk => ?_⟩
                  · rcases List.mem_cons.1 he with rfl | he
                    · exact Or.inr ⟨Nat.le_refl _, Nat.lt_succ_self _⟩
                    · simp only [List.mem_singleton] at he; subst he
                      exact Or.inl (by simp [hid])
                  · obtain ⟨s1, s2⟩ := srcA_spec hm hsrc
                    have hl : new.length = k * i.size := by have := s1.newsLen; simpa using this
                    have hlies := hm.lies hid
                    have hDn : ∀ j, D j → j ≠ nx := fun j hj e => hd j hj ⟨by omega, by show j < nx + 1; omega⟩
                    have hs : ren ρ (.slice (some ⟨id, 0, some q⟩) n c) = .slice (some ⟨(ρ id).1, 0, none⟩) n (capA ρ ⟨id, 0, some q⟩ c) := by simp only [ren, ren1, ren0, renS, renB_lt hq2]
                    by_cases hroom : n + k ≤ capA ρ ⟨id, 0, some q⟩ c
                    · cases hq : Nat.beq q 0
                      · rw [hq] at c5
                        have c5 : c < n + k := by simpa [Nat.blt_eq] using c5
                        have hq0 := Nat.ne_of_beq_eq_false hq
                        exfalso
                        have hq1 : q = 1 := by omega
                        subst hq1
                        have : capA ρ ⟨id, 0, some 1⟩ c = c := rfl
                        omega
                      · rw [hq] at c5
                        have hq0 : q = 0 := Nat.eq_of_beq_eq_true hq
                        have c5 : c = 0 := Nat.eq_of_beq_eq_true c5
                        subst hq0 c5
                        have hcap : capA ρ ⟨id, 0, some 0⟩ 0 = (ρ id).2 := rfl
                        rw [hcap] at hroom hs
                        obtain ⟨rest, fr, hb, hf, hr⟩ := hlies
                        obtain ⟨r1, r2⟩ := hr rfl
                        rw [hce] at r1 r2
                        have htot : (n + k) * i.size ≤ cs.length + rest.size := Nat.le_trans (Nat.mul_le_mul_right _ hroom) r2
                        rw [Nat.add_mul] at htot
                        have hrun := run_append_room_src (P := P) w sT xT o.type e i hu hi (ρ id).1 0 n (ρ id).2 (ren ρ x) k (new.map (ren0 ρ)) s1 hroom (fun j hj => by
                            simp only [List.length_map] at hj
                            simp only [World.cell?, hb]
                            simp
                            omega) (fun j hj => by
                            simp only [List.length_map] at hj
                            have := hf (0 + n * i.size + j) (by omega)
                            simp only [World.frozen?, hb]
                            simp only [Bool.and_eq_false_imp, decide_eq_true_eq, decide_eq_false_iff_not]
                            exact fun h1 h2 => this ⟨h1, h2⟩)
                        have ha := Aft.grown (n := n) (k := k) (nx := nx) (v := .slice (some ⟨nx, 0, some 0⟩) (n + k) 0) hm hDn hid (by rw [hce]; exact c3) (by rw [hce]; exact hl) hroom s2 (sl_fit nx 0 0 (n + k) 0)
                        rw [hce] at ha
                        rw [Nat.zero_add] at hrun
                        rw [← hs] at hrun
                        refine oper_val (hop hev hrun) ?_
                        have := hk _ _ ha
                        simpa [ren, ren1, ren0, renS, renB, capA, upd_self] using this
                    · have hold : ((cs.take (n * i.size)).map (ren0 ρ)).length = n * i.size := by simp; omega
                      have hfc := run_firstCells_some (P := P) w.drew i.size n ⟨(ρ id).1, 0, none⟩ n (capA ρ ⟨id, 0, some q⟩ c) ((cs.take (n * i.size)).map (ren0 ρ)) hold (fun j u hu => by
                        rw [Addr.add_mid]
                        rw [List.getElem?_map] at hu
                        cases hcj : (cs.take (n * i.size))[j]? with
                        | none => rw [hcj] at hu; cases hu
                        | some y =>
                          rw [hcj] at hu
                          simp only [Option.map_some, Option.some.injEq] at hu
                          subst hu
                          rw [List.getElem?_take] at hcj
                          split at hcj
                          · have := hlies.cell hcj
                            rw [Nat.zero_add]; exact this
                          · cases hcj)
                      have hg := run_append_grow_src (P := P) w sT xT o.type e i z hu hi hz (some ⟨(ρ id).1, 0, none⟩) n (capA ρ ⟨id, 0, some q⟩ c) _ hfc (ren ρ x) k (new.map (ren0 ρ)) s1 (by omega) (by omega) (growslice_fits (by omega) (by
                        have : (n + k) * i.bytes ≤ 200000 * 100000 := Nat.mul_le_mul (by omega) b2
                        omega))
                      have hcap := grownCap_ge w (n + k) (capA ρ ⟨id, 0, some q⟩ c) e
                      rw [← List.map_append] at hg
                      have ha := Aft.alloc (T := e) (cs := cs.take (n * i.size) ++ new) (v := .slice (some ⟨nx, 0, some 0⟩) (n + k) 0) (r := true) (hm.drop id).drew hDn (fun v hv => by
                        rcases List.mem_append.1 hv with hv | hv
                        · exact hm.fit hid v (List.mem_of_mem_take hv)
                        · exact s2 v hv) (grownCap w (n + k) (capA ρ ⟨id, 0, some q⟩ c) e) (Builtin.zeroCells z.cells (grownCap w (n + k) (capA ρ ⟨id, 0, some q⟩ c) e - (n + k))) (fun _ => by
                        have hlen : (cs.take (n * i.size) ++ new).length = (n + k) * i.size := by rw [List.length_append, hl, Nat.add_mul, List.length_take, Nat.min_eq_left c3]
                        rw [hce, size_zeroCells, b1, hlen]
                        constructor
                        · exact Nat.mul_le_mul_right _ (by omega)
                        · rw [← Nat.add_mul]; exact Nat.mul_le_mul_right _ (by omega)) (sl_fit nx 0 0 (n + k) 0)
                      rw [← hs] at hg
                      refine oper_val (hop hev hg) ?_
                      have := hk _ _ ha.undrew.drop
                      simpa [ren, ren1, ren0, renS, renB, capA, upd_self] using this
              · cases h
            · cases h
        · cases h
      · cases h
    · cases h
  · cases h
end Rx
end Go.Proofs.YtedfdphapcanoaaGreatDoor
end
