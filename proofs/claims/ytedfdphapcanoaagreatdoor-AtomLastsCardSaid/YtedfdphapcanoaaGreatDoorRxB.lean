/- A run reckoned by the kernel: functions; the theorem that proofs use. No program. -/
import Derived.Test.YtedfdphapcanoaaGreatDoorRxA
import Derived.KernelRfl
set_option linter.unusedVariables false
set_option linter.unusedSimpArgs false
namespace Go.Proofs.YtedfdphapcanoaaGreatDoor
open Go.RowKit Go.Lib
namespace Rx
variable {P : Program} {A : Amb}

def resF (tmps : Array Value) : ResultVar → Sem Value
  | .tmp t => pure (tmps.getD t undef)
  | .cell p t => do loadVar t (← asAddr (tmps.getD p undef))
theorem resA_run {D : Nat → Prop} {ρ : Nm} {e : Env} {m : Mem} {a : Act} {w : World} (hf : FrOK D ρ (fun _ => True) e a) (hm : MemOK P A D ρ m w) : ∀ (rs : List ResultVar) (vs : List Value), resA P e m rs = some vs → vs.all notTuple = true →
    (rs.mapM (resF a.tmps)).run P w = .ok (vs.map (ren ρ)) w ∧ ∀ v ∈ vs, Fit D v
  | [], vs, h, _ => by
    simp only [resA, Option.some.injEq] at h
    subst h
    exact ⟨rfl, fun _ h => by cases h⟩
  | .tmp t :: rs, vs, h, hn => by
    simp only [resA] at h
    split at h
    · rename_i v hv
      split at h
      · rename_i us hus
        simp only [Option.some.injEq] at h
        subst h
        simp only [List.all_cons, Bool.and_eq_true] at hn
        obtain ⟨h1, h2⟩ := resA_run hf hm rs us hus hn.2
        obtain ⟨h3, h4⟩ := hf t v trivial hv
        refine ⟨?_, fun u hu => ?_⟩
        · rw [List.mapM_cons]
          have : (resF a.tmps (.tmp t)).run P w = .ok (ren ρ v) w := by
            have := eval_tmp h3
            simp only [Act.eval] at this
            simp only [resF]
            rw [this]; rfl
          rw [run_bind_ok this, run_bind_ok h1]
          rfl
        · rcases List.mem_cons.1 hu with rfl | hu
          · exact h4
          · exact h2 u hu
      · cases h
    · cases h
  | .cell p t :: rs, vs, h, hn => by
    simp only [resA] at h
    split at h
    · rename_i q hq
      split at h
      · rename_i v hv
        split at h
        · rename_i us hus
          simp only [Option.some.injEq] at h
          subst h
          simp only [List.all_cons, Bool.and_eq_true] at hn
          obtain ⟨h1, h2⟩ := resA_run hf hm rs us hus hn.2
          obtain ⟨ad, rfl, h5, h6, _⟩ := loadA_run hm hv
          obtain ⟨h3, h4⟩ := hf p _ trivial hq
          refine ⟨?_, fun u hu => ?_⟩
          · rw [List.mapM_cons]
            have h7 : (asAddr (a.tmps.getD p undef) : Sem Addr).run P w = .ok (renA ρ ad) w := by
              have := eval_tmp h3
              simp only [Act.eval] at this
              rw [this]; rfl
            have h8 : (resF a.tmps (.cell p t)).run P w = .ok (ren ρ v) w := by
              simp only [resF]
              rw [run_bind_ok h7]; exact h5
            rw [run_bind_ok h8, run_bind_ok h1]
            rfl
          · rcases List.mem_cons.1 hu with rfl | hu
            · exact h6
            · exact h2 u hu
        · cases h
      · cases h
    · cases h
theorem ren_one {ρ : Nm} {vs : List Value} (h : vs.all notTuple = true) : (if hs : (vs.map (ren ρ)).toArray.size = 1 then (vs.map (ren ρ)).toArray[0] else .tuple (vs.map (ren ρ)).toArray) = ren ρ (one vs) := by
  match vs, h with
  | [], _ => rfl
  | [v], _ => rfl
  | a :: b :: c, h =>
    have : (a :: b :: c).map (ren ρ) = (a :: b :: c).map (ren1 ρ) := List.map_congr_left fun v hv => ren_notTuple (List.all_eq_true.1 h v hv)
    rw [dif_neg (by simp)]
    simp only [one, ren]
    rw [this]
theorem results_run {fn : Func} {D : Nat → Prop} {ρ : Nm} {e : Env} {m : Mem} {a : Act} {w : World} (hf : FrOK D ρ (fun _ => True) e a) (hm : MemOK P A D ρ m w) {vs : List Value} (h : resA P e m fn.results.toList = some vs) (hn : vs.all notTuple = true) :
    (results fn a.tmps).run P w = .ok (ren ρ (one vs)) w ∧ Fit D (one vs) := by
  obtain ⟨h1, h2⟩ := resA_run hf hm _ _ h hn
  refine ⟨?_, Fit.one fun v hv => ⟨h2 v hv, List.all_eq_true.1 hn v hv⟩⟩
  have h3 : (fn.results.mapM (resF a.tmps)).run P w = .ok (vs.map (ren ρ)).toArray w := by
    rw [Array.mapM_eq_mapM_toList, Sem.run_map, h1]
    rfl
  have h4 : results fn a.tmps = (fn.results.mapM (resF a.tmps) >>= fun vs => pure (if h : vs.size = 1 then vs[0] else .tuple vs)) := by
    unfold results
    rfl
  rw [h4, run_bind_ok h3, ← ren_one hn]
  rfl
theorem maxN_eq (a b : Nat) : maxN a b = max a b := by
  unfold maxN
  cases h : Nat.ble a b <;> simp only [cond]
  · have := Nat.not_le_of_not_ble_eq_true (by rw [h]; exact Bool.false_ne_true); omega
  · have := Nat.le_of_ble_eq_true h; omega
theorem callN_S (hm : P.follows .mixedOrders = true) : ∀ k, CallS P A (callN P k)
  | 0 => fun f args m nx ts out h => by cases h
  | k + 1 => fun f args m nx ts out h => by
    simp only [callN] at h
    split at h
    · rename_i fn hfn
      split at h
      · rename_i c hbody
        split at h
        · cases h
        · rename_i x st hne hx
          split at h
          · rename_i vs hvs
            cases hb : vs.all notTuple <;> simp only [hb, cond] at h
            · cases h
            · simp only [Option.some.injEq] at h
              subst h
              obtain ⟨e, s⟩ := exec_S (A := A) hm (callN_S hm k) k c _ x st hx
              obtain ⟨l, e1, e2, e3⟩ := e.mem
              have e3 : st.log = l := by rw [e3]; simp
              refine ⟨e.nx, by rw [e3]; exact e2, rfl, s.mono fun h' D ρ w hmem hargs hD => ?_⟩
              refine calls_of_wp hfn hbody (h' D ρ _ w _ ⟨fun t u _ hu => ?_, ?_, rfl, hmem⟩ hD fun ρ' a' w' k' => ?_)
              · simp only [env0] at hu
                split at hu
                · rename_i v hv
                  simp only [Option.some.injEq] at hu
                  subst hu
                  refine ⟨?_, hargs _ (List.mem_of_getElem? hv)⟩
                  have hlt := (List.getElem?_eq_some_iff.1 hv).1
                  simp [Array.getElem?_append, hlt, (List.getElem?_eq_some_iff.1 hv).2]
                · rename_i hv
                  cases hb2 : Nat.blt t fn.ntmps <;> simp only [hb2, cond] at hu
                  · cases hu
                  · simp only [Option.some.injEq] at hu
                    subst hu
                    refine ⟨?_, Fit.real rfl⟩
                    have h1 : args.length ≤ t := List.getElem?_eq_none_iff.1 hv
                    have h2 : t < fn.ntmps := by simpa [Nat.blt_eq] using hb2
                    rw [Array.getElem?_append_right (by simpa using h1)]
                    simp only [List.size_toArray, List.length_map]
                    rw [Array.getElem?_replicate, if_pos (by omega)]
                    rfl
              · simp [maxN_eq]; omega
              · have hr := results_run k'.ok.fr k'.ok.mem hvs hb
                have hend : bodyPost P fn (fun e w' => ∃ ρ', e = .returned (ren ρ' (one vs)) ∧ Aft P A D ρ m nx w (one vs) st.log st.nx ρ' w') .normal a' w' := by
                  refine ⟨k'.ok.defers, _, hr.1, ρ', rfl, k'.same, hr.2, ?_, k'.kept, fun i b h1 h2 h3 => k'.new i b h1 h2 (by rw [e1, ← e3]; exact h3)⟩
                  have := k'.ok.mem
                  rw [e1, ← e3] at this
                  exact this
                cases x with
                | nrm => exact hend
                | ret => exact hend
                | ex id => exact (hne id rfl).elim
          · cases h
        · cases h
      · cases h
    · cases h

/-- a question with its answer, and why it is right -/
structure Ev (P : Program) (A : Amb) where
  at_ : Nat
  ans : Ans
  key : Key
  ok : okP P A ans key
def asOf (evs : List (Ev P A)) : List (Nat × Ans) := evs.map fun e => (e.at_, e.ans)
def keysOf (evs : List (Ev P A)) : List Key := evs.map (·.key)
theorem ok_all {evs : List (Ev P A)} : ∀ {l : List ((Nat × Ans) × Key)}, asOf evs = l.map (·.1) → keysOf evs = l.map (·.2) → ∀ p ∈ l, okP P A p.1.2 p.2 := by
  induction evs with
  | nil => intro l h1 _ p hp; cases l with
    | nil => cases hp
    | cons x l => cases h1
  | cons e evs ih => intro l h1 h2 p hp; cases l with
    | nil => cases hp
    | cons x l =>
      simp only [asOf, keysOf, List.map_cons, List.cons.injEq] at h1 h2
      rcases List.mem_cons.1 hp with rfl | hp
      · rw [← h1.1, ← h2.1]; exact e.ok
      · exact ih h1.2 h2.2 p hp
def yes (n : Nat) {b : Bool} (h : b = true) : Ev P A := ⟨n, .br true, .b b, h⟩
def no (n : Nat) {b : Bool} (h : b = false) : Ev P A := ⟨n, .br false, .b b, h⟩
def gyes (n : Nat) {b : Bool} (h : b = true) : Ev P A := ⟨n, .gd true, .b b, h⟩
def gno (n : Nat) {b : Bool} (h : b = false) : Ev P A := ⟨n, .gd false, .b b, h⟩
def does (n : Nat) {f : FuncId} {args : List Value} {v : Value} (h : ∀ W, A.S W → Calls P f args.toArray W (Ret v W)) : Ev P A := ⟨n, .call v, .c f args, h⟩
def reads (n : Nat) (ids : List Nat) {f : FuncId} {args : List Value} {sn : List (Nat × Blk)} {v : Value} (h : ∀ (ρ : Nm) (W : World), A.S W → (∀ e ∈ sn, Lies ρ W (ρ e.1).1 e.2.1 e.2.2.1 (P.cellsOf e.2.2.1) (ρ e.1).2 e.2.2.2) → Calls P f (args.map (ren ρ)).toArray W (Ret v W)) : Ev P A := ⟨n, .callR ids v, .cr f args sn, h⟩
def gives (n : Nat) {s : Sem Next} {v : Value} (h : ∀ W, A.S W → s.run P W = .ok (.value v) W) : Ev P A := ⟨n, .op v, .s s, h⟩
def is (n : Nat) {x y : Value} (h : x = y) : Ev P A := ⟨n, .eq y, .v x, h⟩
def isT (n : Nat) {b : Bool} (h : b = true) : Ev P A := is n (x := .bool b) (y := .bool true) (congrArg _ h)
def isF (n : Nat) {b : Bool} (h : b = false) : Ev P A := is n (x := .bool b) (y := .bool false) (congrArg _ h)
/-- what a run says: the value, what of the answers is left, the questions -/
def res (P : Program) (f : FuncId) (args : List Value) (qs : List (Nat × Ans)) : Option (Value × List (Nat × Ans) × List Key) :=
  match go P f args qs with
  | some ⟨v, _, _, ts⟩ => some (v, ts.qs, ts.ks)
  | none => none
/-- THE THEOREM: what the kernel reckons of a way is what the call does. -/
theorem run {w0 : World} {f : FuncId} {args : List Value} {v : Value} (evs : List (Ev P (Amb.of w0))) (h : res P f args (asOf evs) = some (v, [], (keysOf evs).reverse) := by kernel_rfl) (hm : P.follows .mixedOrders = true := by kernel_rfl) (ha : args.all real = true := by kernel_rfl) (hv : real v = true := by kernel_rfl) :
    Calls P f args.toArray w0 (Ret v w0) := by
  unfold res at h
  split at h
  · rename_i v' l nx ts hgo
    simp only [Option.some.injEq, Prod.mk.injEq] at h
    obtain ⟨rfl, h1, h2⟩ := h
    obtain ⟨_, _, _, tr, ⟨t1, t2⟩, hs⟩ := callN_S (A := Amb.of w0) hm fuel0 f args _ 0 ⟨0, asOf evs, []⟩ _ hgo
    have t1 : asOf evs = tr.map (·.1) := by rw [h1] at t1; simpa using t1
    have t2 : keysOf evs = tr.map (·.2) := by
      rw [h2] at t2
      have := congrArg List.reverse t2
      simpa using this
    have hc := hs (ok_all t1 t2) (fun _ => False) (fun _ => (0, 0)) w0 ⟨Below.refl _ _, fun {i b} h => (by cases h), fun {i cs T r} h => (by cases h), fun {i cs T r} h => (by cases h), fun {i j b c} h => (by cases h)⟩ (fun u hu => Fit.real (List.all_eq_true.1 ha u hu)) (fun _ h => h.elim)
    rw [ren_list_real ha] at hc
    refine hc.mono ?_
    rintro e w' ⟨ρ', rfl, k⟩
    exact ⟨by rw [ren_real hv], k.mem.s⟩
  · cases h
end Rx
end Go.Proofs.YtedfdphapcanoaaGreatDoor
