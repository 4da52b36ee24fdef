/- A run reckoned by the kernel: a single operation on blocks of which not all is known by itself. No program. -/
import Derived.Test.YtedfdphapcanoaaGreatDoorRxD
set_option linter.unusedVariables false
set_option linter.unusedSimpArgs false
namespace Go.Proofs.YtedfdphapcanoaaGreatDoor
open Go.RowKit Go.Lib
namespace Rx
variable {P : Program} {A : Amb}

def evOf (vals : List Value) : Operand → Option Value
  | .tmp 0 => none
  | .tmp (t + 1) => vals[t]?
  | x => evalA (fun _ => none) x
def mkO (op : Op) (ty : TypeId) : Oper := { (default : Oper) with dst := some 0, op := op, type := ty }
theorem sound_end {ts : Ts} {C : Prop} (h : Sound P A ts ts C) : C := by
  obtain ⟨l, ⟨e1, _⟩, e2⟩ := h
  have : l = [] := by
    have := congrArg List.length e1
    simp at this; exact this
  subst this
  exact e2 fun _ hp => by cases hp
theorem put0_inj {a : Act} (hz : 0 < a.tmps.size) {x y : Value} (h : a.put (some 0) x = a.put (some 0) y) : x = y := by
  have h1 := put_get (v := x) (t := 0) hz
  have h2 := put_get (v := y) (t := 0) hz
  rw [h] at h1
  rw [h1] at h2
  simpa using h2
theorem upon_move {o' o : Oper} {a' a : Act} {r : Result Next} {v : Value} {Z : Nm → World → Prop} {K : Act → World → Prop} {Q : Exit → Act → World → Prop} (ho : o'.dst = some 0) (hz : 0 < a'.tmps.size) (hd : a'.defers = [])
    (h : o'.upon P a' (fun a1 w1 => ∃ ρ', a1 = a'.put (some 0) (ren ρ' v) ∧ Z ρ' w1) (fun _ _ _ => False) r) (hk : ∀ ρ' w', Z ρ' w' → K (a.put o.dst (ren ρ' v)) w') : o.upon P a K Q r := by
  have key : ∀ {x : Value} {w' : World}, (∃ ρ', a'.put (some 0) x = a'.put (some 0) (ren ρ' v) ∧ Z ρ' w') → K (a.put o.dst x) w' := fun {x w'} ⟨ρ', e, z⟩ => by
    rw [put0_inj hz e]
    exact hk ρ' w' z
  unfold Oper.upon at h ⊢
  rw [ho] at h
  split at h
  · exact key h
  · exact key h
  · rename_i d w'
    obtain ⟨ρ', e, z⟩ := h
    have := congrArg Act.defers e
    simp [Act.put, hd] at this
  · refine h.mono fun e w' he => ?_
    cases e with
    | returned x => exact key he
    | panicked c => exact he.elim
    | outgrown =>
      obtain ⟨_, _, q⟩ := he
      exact q.elim
  · exact h.mono fun x w' he => key he
  · exact h.elim
  · exact h.elim
theorem ovJ {op : Op} {ty : TypeId} {vals : List Value} {sn out : List (Nat × Blk)} {nx nx' : Nat} {v : Value} {log : Log} (h : opVal P (mkO op ty) (evOf vals) (memL sn) nx = some (v, log, nx'))
    (hl : ∀ i b, memL out i = some b → (memL sn).add log i = some b) (hv : vals.all (inP (has1 (sn.map (·.1)))) = true) (hall : allSome (evOf vals) (mkO op ty) = true) : SemJ P A (semR (evOf vals) (mkO op ty)) sn nx v out nx' := by
  intro D ρ w o a K Q hm hd hk
  have hs := sound_end (opVal_S (A := A) h ⟨0, [], []⟩).2.2
  have hD : ∀ i, has1 (sn.map (·.1)) i = true → D i := fun i hi => by
    obtain ⟨b, hb⟩ := Option.isSome_iff_exists.1 (memL_isSome (has1_mem hi))
    exact (hm.dom hb).1
  obtain ⟨a', ha'⟩ : ∃ a' : Act, a' = ⟨#[undef] ++ (vals.map (ren ρ)).toArray, []⟩ := ⟨_, rfl⟩
  have he : EvOK D ρ (evOf vals) a' := fun x u hx => by
    unfold evOf at hx
    split at hx
    · cases hx
    · rename_i t
      refine ⟨eval_tmp ?_, (Fit.of_inP (List.all_eq_true.1 hv u (List.mem_of_getElem? hx))).mono hD⟩
      rw [ha']
      simp [Array.getElem?_append, hx]
    · rename_i h1 h2
      have := (Looks.all (fun _ => none)).ev (D := D) (ρ := ρ) (a := a') (fun t u _ h => by cases h) x u hx
      exact this
  have hr := hs D ρ a' w (fun a1 w1 => ∃ ρ', a1 = a'.put (some 0) (ren ρ' v) ∧ Aft P A D ρ (memL sn) nx w v log nx' ρ' w1) (fun _ _ _ => False) he hm hd fun ρ' w' ha => ⟨ρ', rfl, ha⟩
  unfold Oper.wp at hr
  rw [sem_some hall he] at hr
  exact upon_move (Z := fun ρ' w1 => Aft P A D ρ (memL sn) nx w v log nx' ρ' w1) rfl (by rw [ha']; simp) (by rw [ha']) hr fun ρ' w' ha => hk ρ' w' (ha.sub fun i b hi => by
    rw [outLog_eq] at hi
    exact hl i b hi)
/-- an operation on blocks, as it is reckoned by hand; nx: how many names there are -/
def ov (n nx : Nat) (op : Op) (ty : TypeId) (vals : List Value) (sn : List (Nat × Blk)) (v : Value) (out : List (Nat × Blk)) (d : Nat) {log : Log} (h : opVal P (mkO op ty) (evOf vals) (memL sn) nx = some (v, log, nx + d))
    (hl : ∀ i b, memL out i = some b → (memL sn).add log i = some b) (hv : vals.all (inP (has1 (sn.map (·.1)))) = true := by kernel_rfl) (hall : allSome (evOf vals) (mkO op ty) = true := by kernel_rfl) : Ev P A :=
  ⟨n, .con (sn.map (·.1)) v out d, .sm (semR (evOf vals) (mkO op ty)) sn nx, ovJ h hl hv hall⟩
/-- a call by a contract on blocks -/
def calls (n nx : Nat) {f : FuncId} {args : List Value} {sn : List (Nat × Blk)} {v : Value} {out : List (Nat × Blk)} (d : Nat) (h : CallJ P A f args sn nx v out (nx + d)) (hg : hasBody P f = true := by kernel_rfl) : Ev P A :=
  ⟨n, .con (sn.map (·.1)) v out d, .cm f args sn nx (hasBody P f), hg, h⟩
/-- a loop by what its rounds do -/
def loops (n nx : Nat) {c : Code} {k : Nat} {vals vals' : List (Nat × Value)} {sn out : List (Nat × Blk)} {x : X} (d : Nat) (h : CodeJ P A (.loop c) k vals sn nx x vals' out (nx + d)) : Ev P A :=
  ⟨n, .lp (vals.map (·.1)) (sn.map (·.1)) x vals' out d, .lp c k vals sn nx, h⟩
end Rx
end Go.Proofs.YtedfdphapcanoaaGreatDoor
