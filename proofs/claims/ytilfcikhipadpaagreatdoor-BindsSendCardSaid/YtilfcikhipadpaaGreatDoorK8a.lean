/- Several texts of this claim, one behind the other. -/
import Derived.Test.YtilfcikhipadpaaGreatDoorK7a

section
/- A run reckoned by the kernel: a contract under other names. No program. -/
set_option linter.unusedVariables false
set_option linter.unusedSimpArgs false
namespace Go.Proofs.YtilfcikhipadpaaGreatDoor
open Go.RowKit Go.Lib
namespace Rx
variable {P : Program} {A : Amb}

def idA (σ : Nat → Nat) : Option Addr → Option Addr
  | some ⟨b, o, some s⟩ => some ⟨σ b, o, some s⟩
  | a => a
def idS (σ : Nat → Nat) : Value → Value
  | .pointer a => .pointer (idA σ a)
  | .slice a n c => .slice (idA σ a) n c
  | v => v
def id0 (σ : Nat → Nat) : Value → Value
  | .func f x y => .func f (x.toList.map (idS σ)).toArray (y.toList.map (idS σ)).toArray
  | v => idS σ v
def id1 (σ : Nat → Nat) : Value → Value
  | .agg cs => .agg (cs.toList.map (id0 σ)).toArray
  | v => id0 σ v
def idV (σ : Nat → Nat) : Value → Value
  | .tuple vs => .tuple (vs.toList.map (id1 σ)).toArray
  | v => id1 σ v
def idB (σ : Nat → Nat) (e : Nat × Blk) : Nat × Blk := (σ e.1, e.2.1.map (id0 σ), e.2.2)
theorem renS_id (σ : Nat → Nat) (ρ : Nm) (v : Value) : renS ρ (idS σ v) = renS (fun i => ρ (σ i)) v := by
  cases v <;> try rfl
  case pointer a =>
    cases a with
    | none => rfl
    | some a =>
      obtain ⟨b, o, s⟩ := a
      cases s <;> rfl
  case slice a m c =>
    cases a with
    | none => rfl
    | some a =>
      obtain ⟨b, o, s⟩ := a
      cases s with
      | none => rfl
      | some s =>
        match s with
        | 0 => rfl
        | 1 => rfl
        | 2 => rfl
        | s + 3 => rfl
theorem map_id2 {f g h : Value → Value} (k : ∀ v, f (g v) = h v) (xs : Array Value) : (((xs.toList.map g).toArray).toList.map f).toArray = (xs.toList.map h).toArray := by
  simp only [List.map_map]
  congr 1
  exact List.map_congr_left fun v _ => k v
theorem ren0_id (σ : Nat → Nat) (ρ : Nm) (v : Value) : ren0 ρ (id0 σ v) = ren0 (fun i => ρ (σ i)) v := by
  cases v
  case func f x y =>
    simp only [id0, ren0]
    rw [map_id2 (renS_id σ ρ), map_id2 (renS_id σ ρ)]
  case pointer a => exact renS_id σ ρ (.pointer a)
  case slice a n c => exact renS_id σ ρ (.slice a n c)
  all_goals rfl
theorem ren1_id (σ : Nat → Nat) (ρ : Nm) (v : Value) : ren1 ρ (id1 σ v) = ren1 (fun i => ρ (σ i)) v := by
  cases v
  case agg cs =>
    simp only [id1, ren1]
    rw [map_id2 (ren0_id σ ρ)]
  case func f x y => exact ren0_id σ ρ (.func f x y)
  case pointer a => exact ren0_id σ ρ (.pointer a)
  case slice a n c => exact ren0_id σ ρ (.slice a n c)
  all_goals rfl
theorem ren_id (σ : Nat → Nat) (ρ : Nm) (v : Value) : ren ρ (idV σ v) = ren (fun i => ρ (σ i)) v := by
  cases v
  case tuple cs =>
    simp only [idV, ren]
    rw [map_id2 (ren1_id σ ρ)]
  case agg cs => exact ren1_id σ ρ (.agg cs)
  case func f x y => exact ren1_id σ ρ (.func f x y)
  case pointer a => exact ren1_id σ ρ (.pointer a)
  case slice a n c => exact ren1_id σ ρ (.slice a n c)
  all_goals rfl
theorem lies_id {σ : Nat → Nat} {ρ : Nm} {w : World} {b : Nat} {cs : List Value} {T : TypeId} {s κ : Nat} {r : Bool} : Lies ρ w b (cs.map (id0 σ)) T s κ r ↔ Lies (fun i => ρ (σ i)) w b cs T s κ r := by
  have : (cs.map (id0 σ)).map (ren0 ρ) = cs.map (ren0 fun i => ρ (σ i)) := by
    rw [List.map_map]
    exact List.map_congr_left fun v _ => ren0_id σ ρ v
  unfold Lies
  rw [this, List.length_map]
theorem memL_id {σ : Nat → Nat} {k : Nat} (hσ : ∀ i j, i < k → j < k → σ i = σ j → i = j) : ∀ {l : List (Nat × Blk)}, (∀ e ∈ l, e.1 < k) → (∀ i, i < k → memL (l.map (idB σ)) (σ i) = (memL l i).map (fun b => (b.1.map (id0 σ), b.2))) ∧
    ∀ j b, memL (l.map (idB σ)) j = some b → ∃ i c, i < k ∧ σ i = j ∧ memL l i = some c ∧ b = (c.1.map (id0 σ), c.2)
  | [], _ => ⟨fun _ _ => rfl, fun _ _ h => by cases h⟩
  | e :: l, hk => by
    obtain ⟨q, c⟩ := e
    obtain ⟨h1, h2⟩ := memL_id hσ (l := l) fun e he => hk e (by simp [he])
    have hq : q < k := hk (q, c) (by simp)
    refine ⟨fun i hi => ?_, fun j b hb => ?_⟩
    · simp only [List.map_cons, memL, idB, Mem.put]
      cases hb : Nat.beq i q
      · have : Nat.beq (σ i) (σ q) = false := by
          cases hb2 : Nat.beq (σ i) (σ q)
          · rfl
          · exact absurd (hσ i q hi hq (Nat.eq_of_beq_eq_true hb2)) (Nat.ne_of_beq_eq_false hb)
        rw [this]
        exact h1 i hi
      · rw [Nat.eq_of_beq_eq_true hb]
        simp
    · simp only [List.map_cons, memL, idB, Mem.put] at hb
      cases hj : Nat.beq j (σ q) <;> simp only [hj, cond] at hb
      · obtain ⟨i, c', hi, hs, hm, hbc⟩ := h2 j b hb
        refine ⟨i, c', hi, hs, ?_, hbc⟩
        simp only [memL, Mem.put]
        have : Nat.beq i q = false := by
          cases hb2 : Nat.beq i q
          · rfl
          · rw [← hs, Nat.eq_of_beq_eq_true hb2] at hj
            simp at hj
        rw [this]
        exact hm
      · simp only [Option.some.injEq] at hb
        refine ⟨q, c, hq, (Nat.eq_of_beq_eq_true hj).symm, ?_, hb.symm⟩
        simp [memL, Mem.put]
/-- names: of the k that are there by a list, of the new ones from nx on -/
def sig (τ : List Nat) (nx : Nat) (i : Nat) : Nat := match τ[i]? with | some j => j | none => i - τ.length + nx
theorem sig_lt {τ : List Nat} {nx i : Nat} (h : i < τ.length) : sig τ nx i = τ[i] := by simp [sig, h]
theorem sig_ge {τ : List Nat} {nx i : Nat} (h : τ.length ≤ i) : sig τ nx i = i - τ.length + nx := by
  unfold sig
  rw [List.getElem?_eq_none_iff.2 h]
/-- a contract under other names -/
theorem CallJ.at {f : FuncId} {args : List Value} {sn out : List (Nat × Blk)} {v : Value} {k d : Nat} (h : CallJ P A f args sn k v out (k + d)) (τ : List Nat) (nx : Nat)
    (hk : sn.map (·.1) = List.range k := by kernel_rfl) (hl : τ.length = k := by kernel_rfl) (hnd : τ.all (fun j => Nat.blt j nx) = true := by kernel_rfl) (hn : τ.Nodup := by decide)
    (h1 : args.all (inV k) = true := by kernel_rfl) (h2 : inBlks k sn = true := by kernel_rfl) (h3 : inV (k + d) v = true := by kernel_rfl) (h4 : inBlks (k + d) out = true := by kernel_rfl) :
    CallJ P A f (args.map (idV (sig τ nx))) (sn.map (idB (sig τ nx))) nx (idV (sig τ nx) v) (out.map (idB (sig τ nx))) (nx + d) := by
  subst hl
  have hlt : ∀ i, (hi : i < τ.length) → τ[i] < nx := fun i hi => by simpa [Nat.blt_eq] using List.all_eq_true.1 hnd τ[i] (List.getElem_mem hi)
  have hin : ∀ i j, sig τ nx i = sig τ nx j → i = j := fun i j e => by
    by_cases hi : i < τ.length <;> by_cases hj : j < τ.length
    · rw [sig_lt hi, sig_lt hj] at e
      exact (List.getElem_inj hn).1 e
    · rw [sig_lt hi, sig_ge (by omega)] at e
      have := hlt i hi
      omega
    · rw [sig_ge (by omega), sig_lt hj] at e
      have := hlt j hj
      omega
    · rw [sig_ge (by omega), sig_ge (by omega)] at e
      omega
  have hge : ∀ i, τ.length ≤ i → nx ≤ sig τ nx i ∧ sig τ nx i = i - τ.length + nx := fun i hi => by rw [sig_ge hi]; omega
  have hrev : ∀ j, nx ≤ j → sig τ nx (j - nx + τ.length) = j := fun j hj => by rw [sig_ge (by omega)]; omega
  generalize hσ : sig τ nx = σ at *
  have hin' : ∀ (q : Nat) (i j : Nat), i < q → j < q → σ i = σ j → i = j := fun _ i j _ _ e => hin i j e
  have k1 : ∀ e ∈ sn, e.1 < τ.length := fun e he => by
    have : e.1 ∈ sn.map (·.1) := List.mem_map_of_mem he
    rw [hk] at this
    exact List.mem_range.1 this
  have k2 : ∀ i, i < τ.length → ∃ b, memL sn i = some b := fun i hi => Option.isSome_iff_exists.1 (memL_isSome (by rw [hk]; exact List.mem_range.2 hi))
  obtain ⟨m1, m2⟩ := memL_id (hin' τ.length) k1
  obtain ⟨o1, o2⟩ := memL_id (hin' (τ.length + d)) (l := out) fun e he => (by
    have := List.all_eq_true.1 h4 e he
    simp only [Bool.and_eq_true] at this
    simpa [Nat.blt_eq] using this.1)
  intro D ρ w hm hf hd
  have hm0 : ∀ {i : Nat} {b : Blk}, memL sn i = some b → i < τ.length ∧ memL (sn.map (idB σ)) (σ i) = some (b.1.map (id0 σ), b.2) := fun {i b} e => by
    have := k1 _ (memL_mem e)
    exact ⟨this, by rw [m1 i this, e]; rfl⟩
  have hM : MemOK P A (fun i => i < τ.length) (fun i => ρ (σ i)) (memL sn) w :=
    ⟨hm.s, fun e => ⟨(hm0 e).1, (hm.dom (hm0 e).2).2⟩, fun {i cs T r} e v hv => Fit0.of_in ((inBlks_spec h2 e).2 v hv), fun {i cs T r} e => lies_id.1 (hm.lies (hm0 e).2), fun {i j b c} e g hij => hm.inj (hm0 e).2 (hm0 g).2 fun he => hij (hin i j he)⟩
  have hr := h (fun i => i < τ.length) (fun i => ρ (σ i)) w hM (fun u hu => Fit.of_in (List.all_eq_true.1 h1 u hu)) (fun i hi e => by omega)
  have ha : args.map (ren fun i => ρ (σ i)) = (args.map (idV σ)).map (ren ρ) := by
    rw [List.map_map]
    exact List.map_congr_left fun u _ => (ren_id σ ρ u).symm
  rw [ha] at hr
  refine hr.mono ?_
  rintro e w' ⟨ρ0, rfl, g⟩
  have gm := g.mem
  have gn := g.new
  rw [outLog_eq] at gm gn
  have hD : ∀ i, i < τ.length → D (σ i) := fun i hi => by
    obtain ⟨b, hb⟩ := k2 i hi
    exact (hm.dom (hm0 hb).2).1
  obtain ⟨ρ', hρ'⟩ : ∃ ρ' : Nm, ρ' = fun j => if nx ≤ j ∧ j < nx + d then ρ0 (j - nx + τ.length) else ρ j := ⟨_, rfl⟩
  have same : ∀ i, ¬ (nx ≤ i ∧ i < nx + d) → ρ' i = ρ i := fun i hi => by rw [hρ']; simp only; rw [if_neg hi]
  have hσρ : ∀ i, i < τ.length + d → ρ' (σ i) = ρ0 i := fun i hi => by
    by_cases hit : i < τ.length
    · rw [same _ (hd _ (hD i hit))]
      exact (g.same i (by omega)).symm
    · obtain ⟨_, e2⟩ := hge i (by omega)
      rw [hρ']; simp only
      rw [if_pos (by omega)]
      congr 1
      omega
  have hx : ∀ i, i < τ.length + d → ext D nx (nx + d) (σ i) := fun i hi => by
    by_cases hit : i < τ.length
    · exact Or.inl (hD i hit)
    · obtain ⟨_, e2⟩ := hge i (by omega)
      exact Or.inr (by omega)
  have fit0 : ∀ {u : Value}, inC (τ.length + d) u = true → Fit0 (ext D nx (nx + d)) (id0 σ u) := fun hu ρ1 ρ2 hk => by
    rw [ren0_id, ren0_id]
    exact ren0_in hu fun i hi => hk _ (hx i hi)
  refine ⟨ρ', ?_, same, fun ρ1 ρ2 hk => ?_, ?_, ?_, fun j b j1 j2 e => ?_⟩
  · rw [ren_id]
    exact congrArg Ending.returned (ren_in h3 fun i hi => (hσρ i hi).symm)
  · rw [ren_id, ren_id]
    exact ren_in h3 fun i hi => hk _ (hx i hi)
  · rw [outLog_eq]
    have q : ∀ {j : Nat} {b : Blk}, memL (out.map (idB σ)) j = some b → ∃ i c, i < τ.length + d ∧ σ i = j ∧ memL out i = some c ∧ b = (c.1.map (id0 σ), c.2) := fun {j b} e => o2 j b e
    refine ⟨gm.s, fun {j b} e => ?_, fun {j cs T r} e v hv => ?_, fun {j cs T r} e => ?_, fun {i j b c} e e' hij => ?_⟩
    · obtain ⟨i, c, hi, rfl, hc, rfl⟩ := q e
      exact ⟨hx i hi, by rw [hσρ i hi]; exact (gm.dom hc).2⟩
    · obtain ⟨i, c, hi, rfl, hc, hb⟩ := q e
      obtain ⟨c1, c2, c3⟩ := c
      simp only [Prod.mk.injEq] at hb
      obtain ⟨rfl, rfl, rfl⟩ := hb
      obtain ⟨u, hu, rfl⟩ := List.mem_map.1 hv
      exact fit0 ((inBlks_spec h4 hc).2 u hu)
    · obtain ⟨i, c, hi, rfl, hc, hb⟩ := q e
      obtain ⟨c1, c2, c3⟩ := c
      simp only [Prod.mk.injEq] at hb
      obtain ⟨rfl, rfl, rfl⟩ := hb
      rw [hσρ i hi]
      refine lies_id.2 ((gm.lies hc).ren (D := fun i => i < τ.length + d) (fun v hv => Fit0.of_in ((inBlks_spec h4 hc).2 v hv)) fun i hi => (hσρ i hi).symm)
    · obtain ⟨i', c', hi, rfl, hc, rfl⟩ := q e
      obtain ⟨j', d', hj, rfl, hd', rfl⟩ := q e'
      rw [hσρ i' hi, hσρ j' hj]
      exact gm.inj hc hd' fun he => hij (by rw [he])
  · exact g.kept.mono fun b _ ⟨i, c, hi, hb⟩ => ⟨σ i, _, (hm0 hi).2, hb⟩
  · rw [outLog_eq] at e
    obtain ⟨i, c, hi, rfl, hc, rfl⟩ := o2 j b e
    have hit : τ.length ≤ i := by
      rcases Nat.lt_or_ge i τ.length with hit | hit
      · exact absurd ⟨j1, j2⟩ (hd _ (hD i hit))
      · exact hit
    rw [hσρ i hi]
    exact (gn i c hit (by omega) hc).imp id fun ⟨i, c, hi, hb⟩ => ⟨σ i, _, (hm0 hi).2, hb⟩
end Rx
end Go.Proofs.YtilfcikhipadpaaGreatDoor
end

section
/- A run reckoned by the kernel: a single operation on blocks of which not all is known by itself. No program. -/
set_option linter.unusedVariables false
set_option linter.unusedSimpArgs false
namespace Go.Proofs.YtilfcikhipadpaaGreatDoor
open Go.RowKit Go.Lib
namespace Rx
variable {P : Program} {A : Amb}

def evOf (vals : List Value) : Operand → Option Value
  | .tmp 0 => none
  | .tmp (t + 1) => vals[t]?
  | x => evalA (fun _ => none) x
def mkO (op : Op) (ty : TypeId) : Oper := { (default : Oper) with dst := some 0, op := op, type := ty }
theorem sound_end {ts : Ts} {C : Prop} (h : Sound P A ts ts C) : C := by
  obtain ⟨l, ⟨e1, _⟩, e2⟩ := h
  have : l = [] := by
    have := congrArg List.length e1
    simp at this; exact this
  subst this
  exact e2 fun _ hp => by cases hp
theorem put0_inj {a : Act} (hz : 0 < a.tmps.size) {x y : Value} (h : a.put (some 0) x = a.put (some 0) y) : x = y := by
  have h1 := put_get (v := x) (t := 0) hz
  have h2 := put_get (v := y) (t := 0) hz
  rw [h] at h1
  rw [h1] at h2
  simpa using h2
theorem upon_move {o' o : Oper} {a' a : Act} {r : Result Next} {v : Value} {Z : Nm → World → Prop} {K : Act → World → Prop} {Q : Exit → Act → World → Prop} (ho : o'.dst = some 0) (hz : 0 < a'.tmps.size) (hd : a'.defers = [])
    (h : o'.upon P a' (fun a1 w1 => ∃ ρ', a1 = a'.put (some 0) (ren ρ' v) ∧ Z ρ' w1) (fun _ _ _ => False) r) (hk : ∀ ρ' w', Z ρ' w' → K (a.put o.dst (ren ρ' v)) w') : o.upon P a K Q r := by
  have key : ∀ {x : Value} {w' : World}, (∃ ρ', a'.put (some 0) x = a'.put (some 0) (ren ρ' v) ∧ Z ρ' w') → K (a.put o.dst x) w' := fun {x w'} ⟨ρ', e, z⟩ => by
    rw [put0_inj hz e]
    exact hk ρ' w' z
  unfold Oper.upon at h ⊢
  rw [ho] at h
  split at h
  · exact key h
  · exact key h
  · rename_i d w'
    obtain ⟨ρ', e, z⟩ := h
    have := congrArg Act.defers e
    simp [Act.put, hd] at this
  · refine h.mono fun e w' he => ?_
    cases e with
    | returned x => exact key he
    | panicked c => exact he.elim
    | outgrown =>
      obtain ⟨_, _, q⟩ := he
      exact q.elim
  · exact h.mono fun x w' he => key he
  · exact h.elim
  · exact h.elim
theorem ovJ {op : Op} {ty : TypeId} {vals : List Value} {sn out : List (Nat × Blk)} {nx nx' : Nat} {v : Value} {log : Log} (h : opVal P (mkO op ty) (evOf vals) (memL sn) nx = some (v, log, nx'))
    (hl : ∀ i b, memL out i = some b → (memL sn).add log i = some b) (hv : vals.all (inP (has1 (sn.map (·.1)))) = true) (hall : allSome (evOf vals) (mkO op ty) = true) : SemJ P A (semR (evOf vals) (mkO op ty)) sn nx v out nx' := by
  intro D ρ w o a K Q hm hd hk
  have hs := sound_end (opVal_S (A := A) h ⟨0, [], []⟩).2.2
  have hD : ∀ i, has1 (sn.map (·.1)) i = true → D i := fun i hi => by
    obtain ⟨b, hb⟩ := Option.isSome_iff_exists.1 (memL_isSome (has1_mem hi))
    exact (hm.dom hb).1
  obtain ⟨a', ha'⟩ : ∃ a' : Act, a' = ⟨#[undef] ++ (vals.map (ren ρ)).toArray, []⟩ := ⟨_, rfl⟩
  have he : EvOK D ρ (evOf vals) a' := fun x u hx => by
    unfold evOf at hx
    split at hx
    · cases hx
    · rename_i t
      refine ⟨eval_tmp ?_, (Fit.of_inP (List.all_eq_true.1 hv u (List.mem_of_getElem? hx))).mono hD⟩
      rw [ha']
      simp [Array.getElem?_append, hx]
    · rename_i h1 h2
      have := (Looks.all (fun _ => none)).ev (D := D) (ρ := ρ) (a := a') (fun t u _ h => by cases h) x u hx
      exact this
  have hr := hs D ρ a' w (fun a1 w1 => ∃ ρ', a1 = a'.put (some 0) (ren ρ' v) ∧ Aft P A D ρ (memL sn) nx w v log nx' ρ' w1) (fun _ _ _ => False) he hm hd fun ρ' w' ha => ⟨ρ', rfl, ha⟩
  unfold Oper.wp at hr
  rw [sem_some hall he] at hr
  exact upon_move (Z := fun ρ' w1 => Aft P A D ρ (memL sn) nx w v log nx' ρ' w1) rfl (by rw [ha']; simp) (by rw [ha']) hr fun ρ' w' ha => hk ρ' w' (ha.sub fun i b hi => by
    rw [outLog_eq] at hi
    exact hl i b hi)
theorem outF_nil (sn : List (Nat × Blk)) : outF sn [] [] = sn := by
  unfold outF
  rw [List.nil_append]
  exact List.filter_eq_self.2 (fun _ _ => rfl)
/-- the same, of one that leaves the blocks as they are -/
def ovR (n nx : Nat) (op : Op) (ty : TypeId) (vals : List Value) (sn : List (Nat × Blk)) (v : Value) (h : opVal P (mkO op ty) (evOf vals) (memL sn) nx = some (v, [], nx))
    (hv : vals.all (inP (has1 (sn.map (·.1)))) = true := by kernel_rfl) (hall : allSome (evOf vals) (mkO op ty) = true := by kernel_rfl) : Ev P A :=
  ⟨n, .rd (sn.map (·.1)) [] v [] 0, .sm (semR (evOf vals) (mkO op ty)) sn nx, by rw [show okP P A (.rd (sn.map (·.1)) [] v [] 0) (.sm (semR (evOf vals) (mkO op ty)) sn nx) = SemJ P A (semR (evOf vals) (mkO op ty)) sn nx v (outF sn [] []) (nx + 0) from rfl, outF_nil]; exact ovJ h (fun _ _ h => h) hv hall⟩
/-- one that writes to ws alone, and makes new ones: what is not among these is left out of 'out' -/
def ovW (n nx : Nat) (op : Op) (ty : TypeId) (vals : List Value) (sn : List (Nat × Blk)) (ws : List Nat) (v : Value) (out : List (Nat × Blk)) (d : Nat) {log : Log} (h : opVal P (mkO op ty) (evOf vals) (memL sn) nx = some (v, log, nx + d))
    (hl : ∀ i b, memL (outF sn ws out) i = some b → (memL sn).add log i = some b) (hv : vals.all (inP (has1 (sn.map (·.1)))) = true := by kernel_rfl) (hall : allSome (evOf vals) (mkO op ty) = true := by kernel_rfl) : Ev P A :=
  ⟨n, .rd (sn.map (·.1)) ws v out d, .sm (semR (evOf vals) (mkO op ty)) sn nx, ovJ h hl hv hall⟩
/-- a call that leaves the blocks as they are -/
def callsR (n nx : Nat) {f : FuncId} {args : List Value} {sn : List (Nat × Blk)} {v : Value} (h : CallJ P A f args sn nx v sn nx) (hg : hasBody P f = true := by kernel_rfl) : Ev P A :=
  ⟨n, .rd (sn.map (·.1)) [] v [] 0, .cm f args sn nx (hasBody P f), by rw [show okP P A (.rd (sn.map (·.1)) [] v [] 0) (.cm f args sn nx (hasBody P f)) = (hasBody P f = true ∧ CallJ P A f args sn nx v (outF sn [] []) (nx + 0)) from rfl, outF_nil]; exact ⟨hg, h⟩⟩
/-- a call by a contract on blocks -/
def calls (n nx : Nat) {f : FuncId} {args : List Value} {sn : List (Nat × Blk)} {v : Value} {out : List (Nat × Blk)} (d : Nat) (h : CallJ P A f args sn nx v out (nx + d)) (hg : hasBody P f = true := by kernel_rfl) : Ev P A :=
  ⟨n, .con (sn.map (·.1)) v out d, .cm f args sn nx (hasBody P f), hg, h⟩
/-- a loop by what its rounds do -/
def loops (n nx : Nat) {c : Code} {k : Nat} {vals vals' : List (Nat × Value)} {sn out : List (Nat × Blk)} {x : X} (d : Nat) (h : CodeJ P A (.loop c) k vals sn nx x vals' out (nx + d)) : Ev P A :=
  ⟨n, .lp (vals.map (·.1)) (sn.map (·.1)) x vals' out d, .lp c k vals sn nx, h⟩
end Rx
end Go.Proofs.YtilfcikhipadpaaGreatDoor
end

section
/- A run reckoned by the kernel: rows of unknown length: an element's place, its load, a store to it. No program. -/
set_option linter.unusedVariables false
set_option linter.unusedSimpArgs false
namespace Go.Proofs.YtilfcikhipadpaaGreatDoor
open Go.RowKit Go.Lib
namespace Rx
variable {P : Program} {A : Amb}

/-- rows of things, each of k cells -/
theorem flat_len {α : Type} {f : α → List Value} {k : Nat} (hf : ∀ x, (f x).length = k) : ∀ l : List α, (l.flatMap f).length = l.length * k
  | [] => by simp
  | x :: l => by
    rw [List.flatMap_cons, List.length_append, hf, flat_len hf l, List.length_cons, Nat.succ_mul]
    omega
theorem cut_flat {α : Type} {f : α → List Value} {k : Nat} (hf : ∀ x, (f x).length = k) : ∀ (l : List α) (i : Nat) (h : i < l.length), cut (l.flatMap f) (i * k) k = f l[i]
  | [], i, h => by simp at h
  | x :: l, 0, h => by
    simp only [cut, List.flatMap_cons, Nat.zero_mul, List.drop_zero, List.getElem_cons_zero]
    rw [List.take_append_of_le_length (by rw [hf]; exact Nat.le_refl _), List.take_of_length_le (by rw [hf]; exact Nat.le_refl _)]
  | x :: l, i + 1, h => by
    have := cut_flat hf l i (by simpa using h)
    simp only [cut, List.flatMap_cons, List.getElem_cons_succ] at this ⊢
    rw [← this, Nat.succ_mul, Nat.add_comm (i * k) k, ← List.drop_drop]
    congr 2
    rw [List.drop_append_of_le_length (by rw [hf]; exact Nat.le_refl _), List.drop_of_length_le (by rw [hf]; exact Nat.le_refl _)]
    rfl
theorem fit_le {a b c : Nat} (h : a < b) : a * c + c ≤ b * c := by
  have := Nat.mul_le_mul_right c (show a + 1 ≤ b by omega)
  rw [Nat.succ_mul] at this
  exact this

/-- an element's place -/
def idx (n nx : Nat) {ty T : TypeId} {ik : IntKind} {id off q len c j s : Nat} {b : Blk} (hj : j < len) (he : (elemA P T).map (fun x => x.2.size) = some s := by kernel_rfl) (hq : Nat.blt q 2 = true := by kernel_rfl)
    (hv : [Value.slice (some ⟨id, off, some q⟩) len c, .int ik (j : Int)].all (inP (has1 [id])) = true := by kernel_rfl) (hall : allSome (evOf [Value.slice (some ⟨id, off, some q⟩) len c, .int ik (j : Int)]) (mkO (.indexAddr T (.tmp 1) (.tmp 2)) ty) = true := by kernel_rfl) : Ev P A :=
  ovR n nx (.indexAddr T (.tmp 1) (.tmp 2)) ty [.slice (some ⟨id, off, some q⟩) len c, .int ik (j : Int)] [(id, b)] (.pointer (some ⟨id, off + j * s, some 0⟩))
    (by
      have hb : (Nat.blt q 2 && Nat.blt j len) = true := by rw [hq, Bool.true_and]; simpa [Nat.blt_eq] using hj
      show (match indexA P T (.slice (some ⟨id, off, some q⟩) len c) (.int ik (j : Int)) with | some v => some (v, [], nx) | none => _) = _
      have : indexA P T (.slice (some ⟨id, off, some q⟩) len c) (.int ik (j : Int)) = some (.pointer (some ⟨id, off + j * s, some 0⟩)) := by
        show (match elemA P T with | some (_, i) => cond (Nat.blt q 2 && Nat.blt j len) (some (Value.pointer (some ⟨id, off + j * i.size, some 0⟩))) none | none => none) = _
        cases hx : elemA P T with
        | none => rw [hx] at he; cases he
        | some x =>
          rw [hx] at he
          simp only [Option.map_some, Option.some.injEq] at he
          simp only [hb, cond, he]
      rw [this]) hv hall
/-- a struct's load -/
def ld (n nx : Nat) {ty T : TypeId} {id off q k : Nat} {b : Blk} {vs : List Value} (hb : off + k ≤ b.1.length) (hc : cut b.1 off k = vs) (ha : pureRun P (isAgg T) = some true := by kernel_rfl) (hs : pureRun P (sizeOf T) = some k := by kernel_rfl)
    (hv : [Value.pointer (some ⟨id, off, some q⟩)].all (inP (has1 [id])) = true := by kernel_rfl) (hall : allSome (evOf [Value.pointer (some ⟨id, off, some q⟩)]) (mkO (.load T (.tmp 1)) ty) = true := by kernel_rfl) : Ev P A :=
  ovR n nx (.load T (.tmp 1)) ty [.pointer (some ⟨id, off, some q⟩)] [(id, b)] (.agg vs.toArray)
    (by
      show (match loadA P (memL [(id, b)]) T (.pointer (some ⟨id, off, some q⟩)) with | some v => some (v, [], nx) | none => none) = _
      have : loadA P (memL [(id, b)]) T (.pointer (some ⟨id, off, some q⟩)) = some (.agg vs.toArray) := by
        have hm : memL [(id, b)] id = some b := by simp [memL, Mem.put]
        have hl : Nat.ble (off + k) b.1.length = true := Nat.ble_eq_true_of_le hb
        obtain ⟨cs, U, r⟩ := b
        simp only [loadA, hm, ha, hs, hl, cond]
        rw [hc]
      rw [this]) hv hall
/-! ### names in rows of plain cells -/
theorem all_flat {α : Type} {f : α → List Value} {p : Value → Bool} (h : ∀ x, (f x).all p = true) : ∀ l : List α, (l.flatMap f).all p = true
  | [] => rfl
  | x :: l => by rw [List.flatMap_cons, List.all_append, h, all_flat h l]; rfl
theorem idS_real {σ : Nat → Nat} {v : Value} (h : realS v = true) : idS σ v = v := by
  cases v <;> try rfl
  case pointer a =>
    cases a with
    | none => rfl
    | some a =>
      obtain ⟨b, o, s⟩ := a
      cases s
      · rfl
      · simp [realS] at h
  case slice a n c =>
    cases a with
    | none => rfl
    | some a =>
      obtain ⟨b, o, s⟩ := a
      cases s
      · rfl
      · simp [realS] at h
theorem id0_real {σ : Nat → Nat} {v : Value} (h : real0 v = true) : id0 σ v = v := by
  cases v
  case func f x y =>
    simp only [real0, Bool.and_eq_true] at h
    simp only [id0]
    rw [map_id_of (fun v hv => idS_real hv) h.1, map_id_of (fun v hv => idS_real hv) h.2]
  case pointer a => exact idS_real (v := .pointer a) h
  case slice a n c => exact idS_real (v := .slice a n c) h
  all_goals rfl
theorem flat_id {α : Type} {f : α → List Value} (hf : ∀ x, (f x).all real0 = true) (σ : Nat → Nat) (l : List α) : (l.flatMap f).map (id0 σ) = l.flatMap f := by
  exact (List.map_congr_left fun v hv => (id0_real (σ := σ) (List.all_eq_true.1 (all_flat hf l) v hv) : id0 σ v = id v)).trans (List.map_id _)
theorem CallJ.eq {f : FuncId} {args args' : List Value} {sn sn' out out' : List (Nat × Blk)} {nx nx' : Nat} {v v' : Value} (h : CallJ P A f args sn nx v out nx') (h2 : sn = sn') (h4 : out = out') (h1 : args = args' := by kernel_rfl) (h3 : v = v' := by kernel_rfl) : CallJ P A f args' sn' nx v' out' nx' := by
  subst h1 h2 h3 h4
  exact h
end Rx
end Go.Proofs.YtilfcikhipadpaaGreatDoor
end

section
/- A run reckoned by the kernel: blocks under new names behind a call, behind a round. No program. -/
set_option linter.unusedVariables false
set_option linter.unusedSimpArgs false
namespace Go.Proofs.YtilfcikhipadpaaGreatDoor
open Go.RowKit Go.Lib
namespace Rx
variable {P : Program} {A : Amb}

/-- the same of what is not so -/
def nyes (n : Nat) {b : Bool} (h : b = false) : Ev P A := yes n (b := !b) (by rw [h]; rfl)
def nno (n : Nat) {b : Bool} (h : b = true) : Ev P A := no n (b := !b) (by rw [h]; rfl)
def nisT (n : Nat) {b : Bool} (h : b = false) : Ev P A := isT n (b := !b) (by rw [h]; rfl)
def nisF (n : Nat) {b : Bool} (h : b = true) : Ev P A := isF n (b := !b) (by rw [h]; rfl)
/-- a function's first loop -/
def loopIn : Code → Option Code
  | .loop c => some c
  | .seq a b => match loopIn a with | some c => some c | none => loopIn b
  | .block _ c => loopIn c
  | .cond _ a b => match loopIn a with | some c => some c | none => loopIn b
  | _ => none
def loopOf (P : Program) (f : FuncId) : Code := (((P.funcs[f]?).bind (·.body)).bind loopIn).getD .skip
/-- the place in a list -/
def atN : List Nat → Nat → Nat → Option Nat
  | [], _, _ => none
  | x :: l, j, k => cond (Nat.beq x j) (some k) (atN l j (k + 1))
theorem atN_some : ∀ {l : List Nat} {j k i : Nat}, atN l j k = some i → k ≤ i ∧ l[i - k]? = some j
  | [], j, k, i, h => by cases h
  | x :: l, j, k, i, h => by
    simp only [atN] at h
    cases hx : Nat.beq x j <;> simp only [hx, cond] at h
    · obtain ⟨h1, h2⟩ := atN_some h
      refine ⟨by omega, ?_⟩
      rw [show i - k = (i - (k + 1)) + 1 by omega, List.getElem?_cons_succ]
      exact h2
    · simp only [Option.some.injEq] at h
      subst h
      refine ⟨Nat.le_refl _, ?_⟩
      rw [Nat.sub_self, List.getElem?_cons_zero, Nat.eq_of_beq_eq_true hx]
theorem atN_none : ∀ {l : List Nat} {j k : Nat}, atN l j k = none → j ∉ l
  | [], j, k, h => by simp
  | x :: l, j, k, h => by
    simp only [atN] at h
    cases hx : Nat.beq x j <;> simp only [hx, cond] at h
    · have := atN_none h
      simp only [List.mem_cons, not_or]
      exact ⟨fun e => Nat.ne_of_beq_eq_false hx e.symm, this⟩
    · cases h
/-- new names for these, from nx on -/
def mov (τ : List Nat) (nx : Nat) (j : Nat) : Nat := match atN τ j 0 with | some k => nx + k | none => j
def live (τ : List Nat) (nx : Nat) (j : Nat) : Bool := (atN τ j 0).isSome || Nat.blt j nx
theorem mov_in {τ : List Nat} {nx j : Nat} (h : j ∈ τ) : ∃ k, k < τ.length ∧ τ[k]? = some j ∧ mov τ nx j = nx + k := by
  unfold mov
  cases hx : atN τ j 0 with
  | none => exact absurd h (atN_none hx)
  | some k =>
    have := (atN_some hx).2
    rw [Nat.sub_zero] at this
    exact ⟨k, (List.getElem?_eq_some_iff.1 this).1, this, rfl⟩
theorem mov_out {τ : List Nat} {nx j : Nat} (h : j ∉ τ) : mov τ nx j = j := by
  unfold mov
  cases hx : atN τ j 0 with
  | none => rfl
  | some k =>
    have := (atN_some hx).2
    exact absurd (List.mem_of_getElem? this) h
theorem live_spec {τ : List Nat} {nx j : Nat} (h : live τ nx j = true) : j ∈ τ ∨ (j ∉ τ ∧ j < nx) := by
  by_cases hj : j ∈ τ
  · exact Or.inl hj
  · unfold live at h
    cases hx : atN τ j 0 with
    | none => rw [hx] at h; exact Or.inr ⟨hj, by simpa [Nat.blt_eq] using h⟩
    | some k => exact absurd (List.mem_of_getElem? (atN_some hx).2) hj
theorem mov_inj {τ : List Nat} {nx i j : Nat} (hn : τ.Nodup) (hi : live τ nx i = true) (hj : live τ nx j = true) (h : mov τ nx i = mov τ nx j) : i = j := by
  rcases live_spec hi with hi | ⟨hi, hi'⟩ <;> rcases live_spec hj with hj | ⟨hj, hj'⟩
  · obtain ⟨k, k1, k2, k3⟩ := mov_in (nx := nx) hi
    obtain ⟨q, q1, q2, q3⟩ := mov_in (nx := nx) hj
    have : k = q := by omega
    subst this
    rw [k2] at q2
    exact Option.some.inj q2
  · obtain ⟨k, k1, k2, k3⟩ := mov_in (nx := nx) hi
    rw [k3, mov_out hj] at h
    omega
  · obtain ⟨k, k1, k2, k3⟩ := mov_in (nx := nx) hj
    rw [k3, mov_out hi] at h
    omega
  · rwa [mov_out hi, mov_out hj] at h
def liveV (τ : List Nat) (nx : Nat) (v : Value) : Bool := inP (live τ nx) v
def liveB (τ : List Nat) (nx : Nat) (l : List (Nat × Blk)) : Bool := l.all fun e => live τ nx e.1 && e.2.1.all (in0 (live τ nx))
theorem liveB_spec {τ : List Nat} {nx : Nat} {l : List (Nat × Blk)} (h : liveB τ nx l = true) {i : Nat} {b : Blk} (k : memL l i = some b) : live τ nx i = true ∧ ∀ v ∈ b.1, in0 (live τ nx) v = true := by
  have := List.all_eq_true.1 h _ (memL_mem k)
  simp only [Bool.and_eq_true] at this
  exact ⟨this.1, fun v hv => List.all_eq_true.1 this.2 v hv⟩
theorem memL_mov {σ : Nat → Nat} {p : Nat → Bool} (hσ : ∀ i j, p i = true → p j = true → σ i = σ j → i = j) : ∀ {l : List (Nat × Blk)}, (∀ e ∈ l, p e.1 = true) →
    ∀ j b, memL (l.map (idB σ)) j = some b → ∃ i c, p i = true ∧ σ i = j ∧ memL l i = some c ∧ b = (c.1.map (id0 σ), c.2)
  | [], _, _, _, h => by cases h
  | e :: l, hk, j, b, hb => by
    obtain ⟨q, c⟩ := e
    have hq : p q = true := hk (q, c) (by simp)
    simp only [List.map_cons, memL, idB, Mem.put] at hb
    cases hj : Nat.beq j (σ q) <;> simp only [hj, cond] at hb
    · obtain ⟨i, c', hi, hs, hm, hbc⟩ := memL_mov hσ (l := l) (fun e he => hk e (by simp [he])) j b hb
      refine ⟨i, c', hi, hs, ?_, hbc⟩
      simp only [memL, Mem.put]
      have : Nat.beq i q = false := by
        cases hb2 : Nat.beq i q
        · rfl
        · rw [← hs, Nat.eq_of_beq_eq_true hb2] at hj
          simp at hj
      rw [this]
      exact hm
    · simp only [Option.some.injEq] at hb
      refine ⟨q, c, hq, (Nat.eq_of_beq_eq_true hj).symm, ?_, hb.symm⟩
      simp [memL, Mem.put]
/-- what became of blocks, under new names -/
theorem Aft.re {D : Nat → Prop} {ρ ρ' : Nm} {sn out : List (Nat × Blk)} {nx nx' : Nat} {w w' : World} {v : Value} (τ : List Nat) (hm : MemOK P A D ρ (memL sn) w) (hD : ∀ i, D i → ¬ (nx ≤ i ∧ i < nx + τ.length)) (h : Aft P A D ρ (memL sn) nx w v (outLog sn out) nx' ρ' w')
    (hn : τ.Nodup) (ho : LogOK (memL sn) nx nx' (outLog sn out)) (h3 : liveV τ nx v = true) (h4 : liveB τ nx out = true) :
    ∃ ρ2, Aft P A D ρ (memL sn) nx w (idV (mov τ nx) v) (outLog sn (out.map (idB (mov τ nx)))) (nx + τ.length) ρ2 w' ∧ ∀ u, liveV τ nx u = true → Fit (ext D nx nx') u → ren ρ2 (idV (mov τ nx) u) = ren ρ' u ∧ Fit (ext D nx (nx + τ.length)) (idV (mov τ nx) u) := by
  obtain ⟨ρ2, hρ2⟩ : ∃ ρ2 : Nm, ρ2 = fun j => if nx ≤ j ∧ j < nx + τ.length then ρ' (τ[j - nx]?.getD 0) else ρ j := ⟨_, rfl⟩
  have same : ∀ i, ¬ (nx ≤ i ∧ i < nx + τ.length) → ρ2 i = ρ i := fun i hi => by rw [hρ2]; simp only; rw [if_neg hi]
  have hσ : ∀ i, live τ nx i = true → (i ∉ τ → D i) → ρ2 (mov τ nx i) = ρ' i ∧ ext D nx (nx + τ.length) (mov τ nx i) := fun i hi hd => by
    rcases live_spec hi with hi | ⟨hi, hlt⟩
    · obtain ⟨k, k1, k2, k3⟩ := mov_in (nx := nx) hi
      refine ⟨?_, Or.inr (by omega)⟩
      rw [k3, hρ2]; simp only
      rw [if_pos (by omega), show nx + k - nx = k by omega, k2]
      rfl
    · rw [mov_out hi]
      refine ⟨?_, Or.inl (hd hi)⟩
      rw [same i (by omega)]
      exact (h.same i (by omega)).symm
  have toD : ∀ {i : Nat}, ext D nx nx' i → live τ nx i = true → i ∉ τ → D i := fun {i} hi hl hn => by
    rcases hi with hi | hi
    · exact hi
    · rcases live_spec hl with hl | hl
      · exact absurd hl hn
      · omega
  have gm := h.mem
  rw [outLog_eq] at gm
  have vals : ∀ u, liveV τ nx u = true → Fit (ext D nx nx') u → ren ρ2 (idV (mov τ nx) u) = ren ρ' u ∧ Fit (ext D nx (nx + τ.length)) (idV (mov τ nx) u) := fun u hu hf => by
    have hf2 := hf.inter (Fit.of_inP hu)
    refine ⟨?_, fun ρ3 ρ4 hk => ?_⟩
    · rw [ren_id]
      exact hf2 _ _ fun i hi => (hσ i hi.2 (toD hi.1 hi.2)).1
    · rw [ren_id, ren_id]
      exact hf2 _ _ fun i hi => hk _ (hσ i hi.2 (toD hi.1 hi.2)).2
  have vals0 : ∀ u, in0 (live τ nx) u = true → Fit0 (ext D nx nx') u → (ren0 ρ2 (id0 (mov τ nx) u) = ren0 ρ' u) ∧ Fit0 (ext D nx (nx + τ.length)) (id0 (mov τ nx) u) := fun u hu hf => by
    have hf2 := hf.inter (Fit0.of_inP hu)
    refine ⟨?_, fun ρ3 ρ4 hk => ?_⟩
    · rw [ren0_id]
      exact hf2 _ _ fun i hi => (hσ i hi.2 (toD hi.1 hi.2)).1
    · rw [ren0_id, ren0_id]
      exact hf2 _ _ fun i hi => hk _ (hσ i hi.2 (toD hi.1 hi.2)).2
  have q := memL_mov (σ := mov τ nx) (p := live τ nx) (fun i j hi hj e => mov_inj hn hi hj e) (l := out) fun e he => (by
    have := List.all_eq_true.1 h4 e he
    simp only [Bool.and_eq_true] at this
    exact this.1)
  refine ⟨ρ2, ⟨same, (vals v h3 h.fit).2, ?_, h.kept, fun j b j1 j2 e => ?_⟩, vals⟩
  · rw [outLog_eq]
    refine ⟨gm.s, fun {j b} e => ?_, fun {j cs T r} e u hu => ?_, fun {j cs T r} e => ?_, fun {i j b c} e e' hij => ?_⟩
    · obtain ⟨i, c, hi, rfl, hc, rfl⟩ := q _ _ e
      have hd := gm.dom hc
      obtain ⟨e1, e2⟩ := hσ i hi (toD hd.1 hi)
      exact ⟨e2, by rw [e1]; exact hd.2⟩
    · obtain ⟨i, c, hi, rfl, hc, hb⟩ := q _ _ e
      obtain ⟨c1, c2, c3⟩ := c
      simp only [Prod.mk.injEq] at hb
      obtain ⟨rfl, rfl, rfl⟩ := hb
      obtain ⟨y, hy, rfl⟩ := List.mem_map.1 hu
      exact (vals0 y ((liveB_spec h4 hc).2 y hy) (gm.fit hc y hy)).2
    · obtain ⟨i, c, hi, rfl, hc, hb⟩ := q _ _ e
      obtain ⟨c1, c2, c3⟩ := c
      simp only [Prod.mk.injEq] at hb
      obtain ⟨rfl, rfl, rfl⟩ := hb
      have hd := gm.dom hc
      rw [(hσ i hi (toD hd.1 hi)).1]
      obtain ⟨rest, fr, k1, k2, k3⟩ := gm.lies hc
      refine ⟨rest, fr, ?_, ?_, ?_⟩
      · rw [k1, List.map_map]
        have he : c1.map (ren0 ρ') = c1.map (ren0 ρ2 ∘ id0 (mov τ nx)) := List.map_congr_left fun u hu => (vals0 u ((liveB_spec h4 hc).2 u hu) (gm.fit hc u hu)).1.symm
        rw [he]
      · rw [List.length_map]; exact k2
      · rw [List.length_map]; exact k3
    · obtain ⟨i', c', hi, rfl, hc, rfl⟩ := q _ _ e
      obtain ⟨j', d', hj, rfl, hd', rfl⟩ := q _ _ e'
      rw [(hσ i' hi (toD (gm.dom hc).1 hi)).1, (hσ j' hj (toD (gm.dom hd').1 hj)).1]
      exact gm.inj hc hd' fun he => hij (by rw [he])
  · rw [outLog_eq] at e
    obtain ⟨i, c, hi, rfl, hc, rfl⟩ := q _ _ e
    have hd := gm.dom hc
    rw [(hσ i hi (toD hd.1 hi)).1]
    by_cases hlt : nx ≤ i ∧ i < nx'
    · exact h.new i c hlt.1 hlt.2 (by rw [outLog_eq]; exact hc)
    · refine Or.inr ?_
      rw [h.same i hlt]
      have hl : (i, some c) ∈ outLog sn out := List.mem_append_left _ (List.mem_map.2 ⟨(i, c), memL_mem hc, rfl⟩)
      rcases ho _ hl with h0 | h0
      · obtain ⟨b, hb⟩ := Option.isSome_iff_exists.1 h0
        exact ⟨i, b, hb, rfl⟩
      · exact absurd h0 hlt
theorem FrL.re {D : Nat → Prop} {nx nx' m : Nat} {ρ' ρ2 : Nm} {vals : List (Nat × Value)} {a : Act} {σ : Nat → Nat} {p : Value → Bool} (hf : FrL (ext D nx nx') ρ' vals a) (hp : vals.all (fun e => p e.2) = true)
    (h : ∀ u, p u = true → Fit (ext D nx nx') u → ren ρ2 (idV σ u) = ren ρ' u ∧ Fit (ext D nx m) (idV σ u)) : FrL (ext D nx m) ρ2 (vals.map fun e => (e.1, idV σ e.2)) a := by
  intro t u hu
  have : ∀ {l : List (Nat × Value)} {t : Nat} {u : Value}, envL (l.map fun e => (e.1, idV σ e.2)) t = some u → ∃ v, envL l t = some v ∧ u = idV σ v := by
    intro l
    induction l with
    | nil => intro t u h; cases h
    | cons e l ih =>
      obtain ⟨j, c⟩ := e
      intro t u h
      simp only [List.map_cons, envL, Env.put] at h ⊢
      cases hj : Nat.beq t j <;> simp only [hj, cond] at h ⊢
      · exact ih h
      · simp only [Option.some.injEq] at h
        exact ⟨c, rfl, h.symm⟩
  obtain ⟨v, hv, rfl⟩ := this hu
  obtain ⟨h1, h2⟩ := hf t v hv
  obtain ⟨h3, h4⟩ := h v (List.all_eq_true.1 hp _ (envL_mem hv)) h2
  exact ⟨by rw [h1, h3], h4⟩
theorem Aft.wide {D E : Nat → Prop} {ρ ρ' : Nm} {m : Mem} {l : Log} {nx nx' : Nat} {w w' : World} {v : Value} (h : Aft P A D ρ m nx w v l nx' ρ' w') (hd : ∀ i, D i → E i) : Aft P A E ρ m nx w v l nx' ρ' w' :=
  have he : ∀ i, ext D nx nx' i → ext E nx nx' i := fun i hi => hi.imp (hd i) id
  ⟨h.same, h.fit.mono he, ⟨h.mem.s, fun e => ⟨he _ (h.mem.dom e).1, (h.mem.dom e).2⟩, fun e v hv => (h.mem.fit e v hv).mono he, h.mem.lies, h.mem.inj⟩, h.kept, h.new⟩
theorem MemOK.below {D : Nat → Prop} {ρ : Nm} {sn : List (Nat × Blk)} {w : World} {nx : Nat} (h : MemOK P A D ρ (memL sn) w) (h2 : inBlks nx sn = true) : MemOK P A (fun i => D i ∧ i < nx) ρ (memL sn) w :=
  ⟨h.s, fun {i b} e => ⟨⟨(h.dom e).1, (inBlks_spec h2 (cs := b.1) (T := b.2.1) (r := b.2.2) e).1⟩, (h.dom e).2⟩, fun {i cs T r} e v hv => (h.fit e v hv).inter (Fit0.of_in ((inBlks_spec h2 e).2 v hv)), h.lies, h.inj⟩
/-- a call's new blocks under other names -/
theorem CallJ.re {f : FuncId} {args : List Value} {sn out : List (Nat × Blk)} {nx d : Nat} {v : Value} (h : CallJ P A f args sn nx v out (nx + d)) (τ : List Nat) (hn : τ.Nodup := by decide) (ho : outOK (sn.map (·.1)) nx d out = true := by kernel_rfl)
    (h3 : liveV τ nx v = true := by kernel_rfl) (h4 : liveB τ nx out = true := by kernel_rfl) (h1 : args.all (inV nx) = true := by kernel_rfl) (h2 : inBlks nx sn = true := by kernel_rfl) : CallJ P A f args sn nx (idV (mov τ nx) v) (out.map (idB (mov τ nx))) (nx + τ.length) := by
  intro D ρ w hm hf hd
  refine (h (fun i => D i ∧ i < nx) ρ w (hm.below h2) (fun u hu => (hf u hu).inter (Fit.of_in (List.all_eq_true.1 h1 u hu))) (fun i hi k => by omega)).mono ?_
  rintro e w' ⟨ρ', rfl, k⟩
  obtain ⟨ρ2, k2, hv⟩ := Aft.re τ (hm.below h2) (fun i hi k => by omega) k hn (outLog_ok2 ho) h3 h4
  exact ⟨ρ2, congrArg Ending.returned (hv v h3 k.fit).1.symm, k2.wide fun i hi => hi.1⟩
/-- a contract that makes no blocks: where more names are there -/
theorem CallJ.up {f : FuncId} {args : List Value} {sn out : List (Nat × Blk)} {nx n : Nat} {v : Value} (h : CallJ P A f args sn nx v out nx) (hn : nx ≤ n := by decide) (h1 : args.all (inV nx) = true := by kernel_rfl) (h2 : inBlks nx sn = true := by kernel_rfl) : CallJ P A f args sn n v out n := by
  intro D ρ w hm hf hd
  refine (h (fun i => D i ∧ i < nx) ρ w (hm.below h2) (fun u hu => (hf u hu).inter (Fit.of_in (List.all_eq_true.1 h1 u hu))) (fun i hi k => by omega)).mono ?_
  rintro e w' ⟨ρ', rfl, k⟩
  have hx : ∀ i, ext (fun i => D i ∧ i < nx) nx nx i → ext D n n i := fun i hi => by
    rcases hi with hi | hi
    · exact Or.inl hi.1
    · omega
  exact ⟨ρ', rfl, fun i _ => k.same i (by omega), k.fit.mono hx, ⟨k.mem.s, fun e => ⟨hx _ (k.mem.dom e).1, (k.mem.dom e).2⟩, fun e v hv => (k.mem.fit e v hv).mono hx, k.mem.lies, k.mem.inj⟩, k.kept, fun i b h1 h2 => by omega⟩
/-! ### loops whose rounds give some blocks new names -/
/-- a round: of m moving names from nx on, behind it of m' ones -/
def CodeR (P : Program) (A : Amb) (c : Code) (n : Nat) (vals : List (Nat × Value)) (sn : List (Nat × Blk)) (base : List Nat) (nx m : Nat) (x : X) (vals' : List (Nat × Value)) (out' : List (Nat × Blk)) (m' : Nat) : Prop :=
  ∃ (τ : List Nat) (d : Nat) (v1 : List (Nat × Value)) (o1 : List (Nat × Blk)), CodeJ P A c n vals sn (nx + m) x v1 o1 (nx + m + d) ∧ τ.length = m' ∧ τ.Nodup ∧ outOK (sn.map (·.1)) (nx + m) d o1 = true ∧ outOK base nx (m + d) o1 = true ∧
    v1.all (fun e => liveV τ nx e.2) = true ∧ liveB τ nx o1 = true ∧ (v1.map fun e => (e.1, idV (mov τ nx) e.2)) = vals' ∧ o1.map (idB (mov τ nx)) = out'
theorem CodeJ.round {c : Code} {n : Nat} {vals v1 vals' : List (Nat × Value)} {sn o1 out' : List (Nat × Blk)} {base : List Nat} {nx m d : Nat} {x : X} (h : CodeJ P A c n vals sn (nx + m) x v1 o1 (nx + m + d)) (τ : List Nat) (h1 : (v1.map fun e => (e.1, idV (mov τ nx) e.2)) = vals' := by kernel_rfl) (h2 : o1.map (idB (mov τ nx)) = out' := by kernel_rfl)
    (hn : τ.Nodup := by decide) (ho : outOK (sn.map (·.1)) (nx + m) d o1 = true := by kernel_rfl) (hb : outOK base nx (m + d) o1 = true := by kernel_rfl) (h3 : v1.all (fun e => liveV τ nx e.2) = true := by kernel_rfl) (h4 : liveB τ nx o1 = true := by kernel_rfl) :
    CodeR P A c n vals sn base nx m x vals' out' τ.length := ⟨τ, d, v1, o1, h, rfl, hn, ho, hb, h3, h4, h1, h2⟩
end Rx
end Go.Proofs.YtilfcikhipadpaaGreatDoor
end
