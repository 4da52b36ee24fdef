/- Several texts of this claim, one behind the other. -/
import Derived.Test.YtedfdphapcanoaaGreatDoorM10

section
/- A run reckoned by the kernel: a single operation on blocks of which not all is known by itself. No program. -/
set_option linter.unusedVariables false
set_option linter.unusedSimpArgs false
namespace Go.Proofs.YtedfdphapcanoaaGreatDoor
open Go.RowKit Go.Lib
namespace Rx
variable {P : Program} {A : Amb}

def evOf (vals : List Value) : Operand → Option Value
  | .tmp 0 => none
  | .tmp (t + 1) => vals[t]?
  | x => evalA (fun _ => none) x
def mkO (op : Op) (ty : TypeId) : Oper := { (default : Oper) with dst := some 0, op := op, type := ty }
theorem sound_end {ts : Ts} {C : Prop} (h : Sound P A ts ts C) : C := by
  obtain ⟨l, ⟨e1, _⟩, e2⟩ := h
  have : l = [] := by
    have := congrArg List.length e1
    simp at this; exact this
  subst this
  exact e2 fun _ hp => by cases hp
theorem put0_inj {a : Act} (hz : 0 < a.tmps.size) {x y : Value} (h : a.put (some 0) x = a.put (some 0) y) : x = y := by
  have h1 := put_get (v := x) (t := 0) hz
  have h2 := put_get (v := y) (t := 0) hz
  rw [h] at h1
  rw [h1] at h2
  simpa using h2
theorem upon_move {o' o : Oper} {a' a : Act} {r : Result Next} {v : Value} {Z : Nm → World → Prop} {K : Act → World → Prop} {Q : Exit → Act → World → Prop} (ho : o'.dst = some 0) (hz : 0 < a'.tmps.size) (hd : a'.defers = [])
    (h : o'.upon P a' (fun a1 w1 => ∃ ρ', a1 = a'.put (some 0) (ren ρ' v) ∧ Z ρ' w1) (fun _ _ _ => False) r) (hk : ∀ ρ' w', Z ρ' w' → K (a.put o.dst (ren ρ' v)) w') : o.upon P a K Q r := by
  have key : ∀ {x : Value} {w' : World}, (∃ ρ', a'.put (some 0) x = a'.put (some 0) (ren ρ' v) ∧ Z ρ' w') → K (a.put o.dst x) w' := fun {x w'} ⟨ρ', e, z⟩ => by
    rw [put0_inj hz e]
    exact hk ρ' w' z
  unfold Oper.upon at h ⊢
  rw [ho] at h
  split at h
  · exact key h
  · exact key h
  · rename_i d w'
    obtain ⟨ρ', e, z⟩ := h
    have := congrArg Act.defers e
    simp [Act.put, hd] at this
  · refine h.mono fun e w' he => ?_
    cases e with
    | returned x => exact key he
    | panicked c => exact he.elim
    | outgrown =>
      obtain ⟨_, _, q⟩ := he
      exact q.elim
  · exact h.mono fun x w' he => key he
  · exact h.elim
  · exact h.elim
theorem ovJ {op : Op} {ty : TypeId} {vals : List Value} {sn out : List (Nat × Blk)} {nx nx' : Nat} {v : Value} {log : Log} (h : opVal P (mkO op ty) (evOf vals) (memL sn) nx = some (v, log, nx'))
    (hl : ∀ i b, memL out i = some b → (memL sn).add log i = some b) (hv : vals.all (inP (has1 (sn.map (·.1)))) = true) (hall : allSome (evOf vals) (mkO op ty) = true) : SemJ P A (semR (evOf vals) (mkO op ty)) sn nx v out nx' := by
  intro D ρ w o a K Q hm hd hk
  have hs := sound_end (opVal_S (A := A) h ⟨0, [], []⟩).2.2
  have hD : ∀ i, has1 (sn.map (·.1)) i = true → D i := fun i hi => by
    obtain ⟨b, hb⟩ := Option.isSome_iff_exists.1 (memL_isSome (has1_mem hi))
    exact (hm.dom hb).1
  obtain ⟨a', ha'⟩ : ∃ a' : Act, a' = ⟨#[undef] ++ (vals.map (ren ρ)).toArray, []⟩ := ⟨_, rfl⟩
  have he : EvOK D ρ (evOf vals) a' := fun x u hx => by
    unfold evOf at hx
    split at hx
    · cases hx
    · rename_i t
      refine ⟨eval_tmp ?_, (Fit.of_inP (List.all_eq_true.1 hv u (List.mem_of_getElem? hx))).mono hD⟩
      rw [ha']
      simp [Array.getElem?_append, hx]
    · rename_i h1 h2
      have := (Looks.all (fun _ => none)).ev (D := D) (ρ := ρ) (a := a') (fun t u _ h => by cases h) x u hx
      exact this
  have hr := hs D ρ a' w (fun a1 w1 => ∃ ρ', a1 = a'.put (some 0) (ren ρ' v) ∧ Aft P A D ρ (memL sn) nx w v log nx' ρ' w1) (fun _ _ _ => False) he hm hd fun ρ' w' ha => ⟨ρ', rfl, ha⟩
  unfold Oper.wp at hr
  rw [sem_some hall he] at hr
  exact upon_move (Z := fun ρ' w1 => Aft P A D ρ (memL sn) nx w v log nx' ρ' w1) rfl (by rw [ha']; simp) (by rw [ha']) hr fun ρ' w' ha => hk ρ' w' (ha.sub fun i b hi => by
    rw [outLog_eq] at hi
    exact hl i b hi)
/-- an operation on blocks, as it is reckoned by hand; nx: how many names there are -/
def ov (n nx : Nat) (op : Op) (ty : TypeId) (vals : List Value) (sn : List (Nat × Blk)) (v : Value) (out : List (Nat × Blk)) (d : Nat) {log : Log} (h : opVal P (mkO op ty) (evOf vals) (memL sn) nx = some (v, log, nx + d))
    (hl : ∀ i b, memL out i = some b → (memL sn).add log i = some b) (hv : vals.all (inP (has1 (sn.map (·.1)))) = true := by kernel_rfl) (hall : allSome (evOf vals) (mkO op ty) = true := by kernel_rfl) : Ev P A :=
  ⟨n, .con (sn.map (·.1)) v out d, .sm (semR (evOf vals) (mkO op ty)) sn nx, ovJ h hl hv hall⟩
/-- a call by a contract on blocks -/
def calls (n nx : Nat) {f : FuncId} {args : List Value} {sn : List (Nat × Blk)} {v : Value} {out : List (Nat × Blk)} (d : Nat) (h : CallJ P A f args sn nx v out (nx + d)) (hg : hasBody P f = true := by kernel_rfl) : Ev P A :=
  ⟨n, .con (sn.map (·.1)) v out d, .cm f args sn nx (hasBody P f), hg, h⟩
/-- a loop by what its rounds do -/
def loops (n nx : Nat) {c : Code} {k : Nat} {vals vals' : List (Nat × Value)} {sn out : List (Nat × Blk)} {x : X} (d : Nat) (h : CodeJ P A (.loop c) k vals sn nx x vals' out (nx + d)) : Ev P A :=
  ⟨n, .lp (vals.map (·.1)) (sn.map (·.1)) x vals' out d, .lp c k vals sn nx, h⟩
end Rx
end Go.Proofs.YtedfdphapcanoaaGreatDoor
end

section
/- A run reckoned by the kernel: rows of unknown length: an element's place, its load, a store to it. No program. -/
set_option linter.unusedVariables false
set_option linter.unusedSimpArgs false
namespace Go.Proofs.YtedfdphapcanoaaGreatDoor
open Go.RowKit Go.Lib
namespace Rx
variable {P : Program} {A : Amb}

/-- rows of things, each of k cells -/
theorem flat_len {α : Type} {f : α → List Value} {k : Nat} (hf : ∀ x, (f x).length = k) : ∀ l : List α, (l.flatMap f).length = l.length * k
  | [] => by simp
  | x :: l => by
    rw [List.flatMap_cons, List.length_append, hf, flat_len hf l, List.length_cons, Nat.succ_mul]
    omega
theorem cut_flat {α : Type} {f : α → List Value} {k : Nat} (hf : ∀ x, (f x).length = k) : ∀ (l : List α) (i : Nat) (h : i < l.length), cut (l.flatMap f) (i * k) k = f l[i]
  | [], i, h => by simp at h
  | x :: l, 0, h => by
    simp only [cut, List.flatMap_cons, Nat.zero_mul, List.drop_zero, List.getElem_cons_zero]
    rw [List.take_append_of_le_length (by rw [hf]; exact Nat.le_refl _), List.take_of_length_le (by rw [hf]; exact Nat.le_refl _)]
  | x :: l, i + 1, h => by
    have := cut_flat hf l i (by simpa using h)
    simp only [cut, List.flatMap_cons, List.getElem_cons_succ] at this ⊢
    rw [← this, Nat.succ_mul, Nat.add_comm (i * k) k, ← List.drop_drop]
    congr 2
    rw [List.drop_append_of_le_length (by rw [hf]; exact Nat.le_refl _), List.drop_of_length_le (by rw [hf]; exact Nat.le_refl _)]
    rfl
theorem fit_le {a b c : Nat} (h : a < b) : a * c + c ≤ b * c := by
  have := Nat.mul_le_mul_right c (show a + 1 ≤ b by omega)
  rw [Nat.succ_mul] at this
  exact this

/-- an element's place -/
def idx (n nx : Nat) {ty T : TypeId} {ik : IntKind} {id off q len c j s : Nat} {b : Blk} (hj : j < len) (he : (elemA P T).map (fun x => x.2.size) = some s := by kernel_rfl) (hq : Nat.blt q 2 = true := by kernel_rfl)
    (hv : [Value.slice (some ⟨id, off, some q⟩) len c, .int ik (j : Int)].all (inP (has1 [id])) = true := by kernel_rfl) (hall : allSome (evOf [Value.slice (some ⟨id, off, some q⟩) len c, .int ik (j : Int)]) (mkO (.indexAddr T (.tmp 1) (.tmp 2)) ty) = true := by kernel_rfl) : Ev P A :=
  ov n nx (.indexAddr T (.tmp 1) (.tmp 2)) ty [.slice (some ⟨id, off, some q⟩) len c, .int ik (j : Int)] [(id, b)] (.pointer (some ⟨id, off + j * s, some 0⟩)) [(id, b)] 0 (log := [])
    (by
      have hb : (Nat.blt q 2 && Nat.blt j len) = true := by rw [hq, Bool.true_and]; simpa [Nat.blt_eq] using hj
      show (match indexA P T (.slice (some ⟨id, off, some q⟩) len c) (.int ik (j : Int)) with | some v => some (v, [], nx) | none => _) = _
      have : indexA P T (.slice (some ⟨id, off, some q⟩) len c) (.int ik (j : Int)) = some (.pointer (some ⟨id, off + j * s, some 0⟩)) := by
        show (match elemA P T with | some (_, i) => cond (Nat.blt q 2 && Nat.blt j len) (some (Value.pointer (some ⟨id, off + j * i.size, some 0⟩))) none | none => none) = _
        cases hx : elemA P T with
        | none => rw [hx] at he; cases he
        | some x =>
          rw [hx] at he
          simp only [Option.map_some, Option.some.injEq] at he
          simp only [hb, cond, he]
      rw [this]
      rfl) (fun i b h => h) hv hall
/-- a struct's load -/
def ld (n nx : Nat) {ty T : TypeId} {id off q k : Nat} {b : Blk} {vs : List Value} (hb : off + k ≤ b.1.length) (hc : cut b.1 off k = vs) (ha : pureRun P (isAgg T) = some true := by kernel_rfl) (hs : pureRun P (sizeOf T) = some k := by kernel_rfl)
    (hv : [Value.pointer (some ⟨id, off, some q⟩)].all (inP (has1 [id])) = true := by kernel_rfl) (hall : allSome (evOf [Value.pointer (some ⟨id, off, some q⟩)]) (mkO (.load T (.tmp 1)) ty) = true := by kernel_rfl) : Ev P A :=
  ov n nx (.load T (.tmp 1)) ty [.pointer (some ⟨id, off, some q⟩)] [(id, b)] (.agg vs.toArray) [(id, b)] 0 (log := [])
    (by
      show (match loadA P (memL [(id, b)]) T (.pointer (some ⟨id, off, some q⟩)) with | some v => some (v, [], nx) | none => none) = _
      have : loadA P (memL [(id, b)]) T (.pointer (some ⟨id, off, some q⟩)) = some (.agg vs.toArray) := by
        have hm : memL [(id, b)] id = some b := by simp [memL, Mem.put]
        have hl : Nat.ble (off + k) b.1.length = true := Nat.ble_eq_true_of_le hb
        obtain ⟨cs, U, r⟩ := b
        simp only [loadA, hm, ha, hs, hl, cond]
        rw [hc]
      rw [this]
      rfl) (fun i b h => h) hv hall
/-! ### names in rows of plain cells -/
theorem all_flat {α : Type} {f : α → List Value} {p : Value → Bool} (h : ∀ x, (f x).all p = true) : ∀ l : List α, (l.flatMap f).all p = true
  | [] => rfl
  | x :: l => by rw [List.flatMap_cons, List.all_append, h, all_flat h l]; rfl
theorem idS_real {σ : Nat → Nat} {v : Value} (h : realS v = true) : idS σ v = v := by
  cases v <;> try rfl
  case pointer a =>
    cases a with
    | none => rfl
    | some a =>
      obtain ⟨b, o, s⟩ := a
      cases s
      · rfl
      · simp [realS] at h
  case slice a n c =>
    cases a with
    | none => rfl
    | some a =>
      obtain ⟨b, o, s⟩ := a
      cases s
      · rfl
      · simp [realS] at h
theorem id0_real {σ : Nat → Nat} {v : Value} (h : real0 v = true) : id0 σ v = v := by
  cases v
  case func f x y =>
    simp only [real0, Bool.and_eq_true] at h
    simp only [id0]
    rw [map_id_of (fun v hv => idS_real hv) h.1, map_id_of (fun v hv => idS_real hv) h.2]
  case pointer a => exact idS_real (v := .pointer a) h
  case slice a n c => exact idS_real (v := .slice a n c) h
  all_goals rfl
theorem flat_id {α : Type} {f : α → List Value} (hf : ∀ x, (f x).all real0 = true) (σ : Nat → Nat) (l : List α) : (l.flatMap f).map (id0 σ) = l.flatMap f := by
  exact (List.map_congr_left fun v hv => (id0_real (σ := σ) (List.all_eq_true.1 (all_flat hf l) v hv) : id0 σ v = id v)).trans (List.map_id _)
theorem CallJ.eq {f : FuncId} {args args' : List Value} {sn sn' out out' : List (Nat × Blk)} {nx nx' : Nat} {v v' : Value} (h : CallJ P A f args sn nx v out nx') (h2 : sn = sn') (h4 : out = out') (h1 : args = args' := by kernel_rfl) (h3 : v = v' := by kernel_rfl) : CallJ P A f args' sn' nx v' out' nx' := by
  subst h1 h2 h3 h4
  exact h
end Rx
end Go.Proofs.YtedfdphapcanoaaGreatDoor
end
