/- A run reckoned by the kernel: a contract under other names. No program. -/
import Derived.Test.YtedfdphapcanoaaGreatDoorRxC
set_option linter.unusedVariables false
set_option linter.unusedSimpArgs false
namespace Go.Proofs.YtedfdphapcanoaaGreatDoor
open Go.RowKit Go.Lib
namespace Rx
variable {P : Program} {A : Amb}

def idA (σ : Nat → Nat) : Option Addr → Option Addr
  | some ⟨b, o, some s⟩ => some ⟨σ b, o, some s⟩
  | a => a
def idS (σ : Nat → Nat) : Value → Value
  | .pointer a => .pointer (idA σ a)
  | .slice a n c => .slice (idA σ a) n c
  | v => v
def id0 (σ : Nat → Nat) : Value → Value
  | .func f x y => .func f (x.toList.map (idS σ)).toArray (y.toList.map (idS σ)).toArray
  | v => idS σ v
def id1 (σ : Nat → Nat) : Value → Value
  | .agg cs => .agg (cs.toList.map (id0 σ)).toArray
  | v => id0 σ v
def idV (σ : Nat → Nat) : Value → Value
  | .tuple vs => .tuple (vs.toList.map (id1 σ)).toArray
  | v => id1 σ v
def idB (σ : Nat → Nat) (e : Nat × Blk) : Nat × Blk := (σ e.1, e.2.1.map (id0 σ), e.2.2)
theorem renS_id (σ : Nat → Nat) (ρ : Nm) (v : Value) : renS ρ (idS σ v) = renS (fun i => ρ (σ i)) v := by
  cases v <;> try rfl
  case pointer a =>
    cases a with
    | none => rfl
    | some a =>
      obtain ⟨b, o, s⟩ := a
      cases s <;> rfl
  case slice a m c =>
    cases a with
    | none => rfl
    | some a =>
      obtain ⟨b, o, s⟩ := a
      cases s with
      | none => rfl
      | some s =>
        match s with
        | 0 => rfl
        | 1 => rfl
        | 2 => rfl
        | s + 3 => rfl
theorem map_id2 {f g h : Value → Value} (k : ∀ v, f (g v) = h v) (xs : Array Value) : (((xs.toList.map g).toArray).toList.map f).toArray = (xs.toList.map h).toArray := by
  simp only [List.map_map]
  congr 1
  exact List.map_congr_left fun v _ => k v
theorem ren0_id (σ : Nat → Nat) (ρ : Nm) (v : Value) : ren0 ρ (id0 σ v) = ren0 (fun i => ρ (σ i)) v := by
  cases v
  case func f x y =>
    simp only [id0, ren0]
    rw [map_id2 (renS_id σ ρ), map_id2 (renS_id σ ρ)]
  case pointer a => exact renS_id σ ρ (.pointer a)
  case slice a n c => exact renS_id σ ρ (.slice a n c)
  all_goals rfl
theorem ren1_id (σ : Nat → Nat) (ρ : Nm) (v : Value) : ren1 ρ (id1 σ v) = ren1 (fun i => ρ (σ i)) v := by
  cases v
  case agg cs =>
    simp only [id1, ren1]
    rw [map_id2 (ren0_id σ ρ)]
  case func f x y => exact ren0_id σ ρ (.func f x y)
  case pointer a => exact ren0_id σ ρ (.pointer a)
  case slice a n c => exact ren0_id σ ρ (.slice a n c)
  all_goals rfl
theorem ren_id (σ : Nat → Nat) (ρ : Nm) (v : Value) : ren ρ (idV σ v) = ren (fun i => ρ (σ i)) v := by
  cases v
  case tuple cs =>
    simp only [idV, ren]
    rw [map_id2 (ren1_id σ ρ)]
  case agg cs => exact ren1_id σ ρ (.agg cs)
  case func f x y => exact ren1_id σ ρ (.func f x y)
  case pointer a => exact ren1_id σ ρ (.pointer a)
  case slice a n c => exact ren1_id σ ρ (.slice a n c)
  all_goals rfl
theorem lies_id {σ : Nat → Nat} {ρ : Nm} {w : World} {b : Nat} {cs : List Value} {T : TypeId} {s κ : Nat} {r : Bool} : Lies ρ w b (cs.map (id0 σ)) T s κ r ↔ Lies (fun i => ρ (σ i)) w b cs T s κ r := by
  have : (cs.map (id0 σ)).map (ren0 ρ) = cs.map (ren0 fun i => ρ (σ i)) := by
    rw [List.map_map]
    exact List.map_congr_left fun v _ => ren0_id σ ρ v
  unfold Lies
  rw [this, List.length_map]
theorem memL_id {σ : Nat → Nat} {k : Nat} (hσ : ∀ i j, i < k → j < k → σ i = σ j → i = j) : ∀ {l : List (Nat × Blk)}, (∀ e ∈ l, e.1 < k) → (∀ i, i < k → memL (l.map (idB σ)) (σ i) = (memL l i).map (fun b => (b.1.map (id0 σ), b.2))) ∧
    ∀ j b, memL (l.map (idB σ)) j = some b → ∃ i c, i < k ∧ σ i = j ∧ memL l i = some c ∧ b = (c.1.map (id0 σ), c.2)
  | [], _ => ⟨fun _ _ => rfl, fun _ _ h => by cases h⟩
  | e :: l, hk => by
    obtain ⟨q, c⟩ := e
    obtain ⟨h1, h2⟩ := memL_id hσ (l := l) fun e he => hk e (by simp [he])
    have hq : q < k := hk (q, c) (by simp)
    refine ⟨fun i hi => ?_, fun j b hb => ?_⟩
    · simp only [List.map_cons, memL, idB, Mem.put]
      cases hb : Nat.beq i q
      · have : Nat.beq (σ i) (σ q) = false := by
          cases hb2 : Nat.beq (σ i) (σ q)
          · rfl
          · exact absurd (hσ i q hi hq (Nat.eq_of_beq_eq_true hb2)) (Nat.ne_of_beq_eq_false hb)
        rw [this]
        exact h1 i hi
      · rw [Nat.eq_of_beq_eq_true hb]
        simp
    · simp only [List.map_cons, memL, idB, Mem.put] at hb
      cases hj : Nat.beq j (σ q) <;> simp only [hj, cond] at hb
      · obtain ⟨i, c', hi, hs, hm, hbc⟩ := h2 j b hb
        refine ⟨i, c', hi, hs, ?_, hbc⟩
        simp only [memL, Mem.put]
        have : Nat.beq i q = false := by
          cases hb2 : Nat.beq i q
          · rfl
          · rw [← hs, Nat.eq_of_beq_eq_true hb2] at hj
            simp at hj
        rw [this]
        exact hm
      · simp only [Option.some.injEq] at hb
        refine ⟨q, c, hq, (Nat.eq_of_beq_eq_true hj).symm, ?_, hb.symm⟩
        simp [memL, Mem.put]
/-- names: of the k that are there by a list, of the new ones from nx on -/
def sig (τ : List Nat) (nx : Nat) (i : Nat) : Nat := match τ[i]? with | some j => j | none => i - τ.length + nx
theorem sig_lt {τ : List Nat} {nx i : Nat} (h : i < τ.length) : sig τ nx i = τ[i] := by simp [sig, h]
theorem sig_ge {τ : List Nat} {nx i : Nat} (h : τ.length ≤ i) : sig τ nx i = i - τ.length + nx := by
  unfold sig
  rw [List.getElem?_eq_none_iff.2 h]
/-- a contract under other names -/
theorem CallJ.at {f : FuncId} {args : List Value} {sn out : List (Nat × Blk)} {v : Value} {k d : Nat} (h : CallJ P A f args sn k v out (k + d)) (τ : List Nat) (nx : Nat)
    (hk : sn.map (·.1) = List.range k := by kernel_rfl) (hl : τ.length = k := by kernel_rfl) (hnd : τ.all (fun j => Nat.blt j nx) = true := by kernel_rfl) (hn : τ.Nodup := by decide)
    (h1 : args.all (inV k) = true := by kernel_rfl) (h2 : inBlks k sn = true := by kernel_rfl) (h3 : inV (k + d) v = true := by kernel_rfl) (h4 : inBlks (k + d) out = true := by kernel_rfl) :
    CallJ P A f (args.map (idV (sig τ nx))) (sn.map (idB (sig τ nx))) nx (idV (sig τ nx) v) (out.map (idB (sig τ nx))) (nx + d) := by
  subst hl
  have hlt : ∀ i, (hi : i < τ.length) → τ[i] < nx := fun i hi => by simpa [Nat.blt_eq] using List.all_eq_true.1 hnd τ[i] (List.getElem_mem hi)
  have hin : ∀ i j, sig τ nx i = sig τ nx j → i = j := fun i j e => by
    by_cases hi : i < τ.length <;> by_cases hj : j < τ.length
    · rw [sig_lt hi, sig_lt hj] at e
      exact (List.getElem_inj hn).1 e
    · rw [sig_lt hi, sig_ge (by omega)] at e
      have := hlt i hi
      omega
    · rw [sig_ge (by omega), sig_lt hj] at e
      have := hlt j hj
      omega
    · rw [sig_ge (by omega), sig_ge (by omega)] at e
      omega
  have hge : ∀ i, τ.length ≤ i → nx ≤ sig τ nx i ∧ sig τ nx i = i - τ.length + nx := fun i hi => by rw [sig_ge hi]; omega
  have hrev : ∀ j, nx ≤ j → sig τ nx (j - nx + τ.length) = j := fun j hj => by rw [sig_ge (by omega)]; omega
  generalize hσ : sig τ nx = σ at *
  have hin' : ∀ (q : Nat) (i j : Nat), i < q → j < q → σ i = σ j → i = j := fun _ i j _ _ e => hin i j e
  have k1 : ∀ e ∈ sn, e.1 < τ.length := fun e he => by
    have : e.1 ∈ sn.map (·.1) := List.mem_map_of_mem he
    rw [hk] at this
    exact List.mem_range.1 this
  have k2 : ∀ i, i < τ.length → ∃ b, memL sn i = some b := fun i hi => Option.isSome_iff_exists.1 (memL_isSome (by rw [hk]; exact List.mem_range.2 hi))
  obtain ⟨m1, m2⟩ := memL_id (hin' τ.length) k1
  obtain ⟨o1, o2⟩ := memL_id (hin' (τ.length + d)) (l := out) fun e he => (by
    have := List.all_eq_true.1 h4 e he
    simp only [Bool.and_eq_true] at this
    simpa [Nat.blt_eq] using this.1)
  intro D ρ w hm hf hd
  have hm0 : ∀ {i : Nat} {b : Blk}, memL sn i = some b → i < τ.length ∧ memL (sn.map (idB σ)) (σ i) = some (b.1.map (id0 σ), b.2) := fun {i b} e => by
    have := k1 _ (memL_mem e)
    exact ⟨this, by rw [m1 i this, e]; rfl⟩
  have hM : MemOK P A (fun i => i < τ.length) (fun i => ρ (σ i)) (memL sn) w :=
    ⟨hm.s, fun e => ⟨(hm0 e).1, (hm.dom (hm0 e).2).2⟩, fun {i cs T r} e v hv => Fit0.of_in ((inBlks_spec h2 e).2 v hv), fun {i cs T r} e => lies_id.1 (hm.lies (hm0 e).2), fun {i j b c} e g hij => hm.inj (hm0 e).2 (hm0 g).2 fun he => hij (hin i j he)⟩
  have hr := h (fun i => i < τ.length) (fun i => ρ (σ i)) w hM (fun u hu => Fit.of_in (List.all_eq_true.1 h1 u hu)) (fun i hi e => by omega)
  have ha : args.map (ren fun i => ρ (σ i)) = (args.map (idV σ)).map (ren ρ) := by
    rw [List.map_map]
    exact List.map_congr_left fun u _ => (ren_id σ ρ u).symm
  rw [ha] at hr
  refine hr.mono ?_
  rintro e w' ⟨ρ0, rfl, g⟩
  have gm := g.mem
  have gn := g.new
  rw [outLog_eq] at gm gn
  have hD : ∀ i, i < τ.length → D (σ i) := fun i hi => by
    obtain ⟨b, hb⟩ := k2 i hi
    exact (hm.dom (hm0 hb).2).1
  obtain ⟨ρ', hρ'⟩ : ∃ ρ' : Nm, ρ' = fun j => if nx ≤ j ∧ j < nx + d then ρ0 (j - nx + τ.length) else ρ j := ⟨_, rfl⟩
  have same : ∀ i, ¬ (nx ≤ i ∧ i < nx + d) → ρ' i = ρ i := fun i hi => by rw [hρ']; simp only; rw [if_neg hi]
  have hσρ : ∀ i, i < τ.length + d → ρ' (σ i) = ρ0 i := fun i hi => by
    by_cases hit : i < τ.length
    · rw [same _ (hd _ (hD i hit))]
      exact (g.same i (by omega)).symm
    · obtain ⟨_, e2⟩ := hge i (by omega)
      rw [hρ']; simp only
      rw [if_pos (by omega)]
      congr 1
      omega
  have hx : ∀ i, i < τ.length + d → ext D nx (nx + d) (σ i) := fun i hi => by
    by_cases hit : i < τ.length
    · exact Or.inl (hD i hit)
    · obtain ⟨_, e2⟩ := hge i (by omega)
      exact Or.inr (by omega)
  have fit0 : ∀ {u : Value}, inC (τ.length + d) u = true → Fit0 (ext D nx (nx + d)) (id0 σ u) := fun hu ρ1 ρ2 hk => by
    rw [ren0_id, ren0_id]
    exact ren0_in hu fun i hi => hk _ (hx i hi)
  refine ⟨ρ', ?_, same, fun ρ1 ρ2 hk => ?_, ?_, ?_, fun j b j1 j2 e => ?_⟩
  · rw [ren_id]
    exact congrArg Ending.returned (ren_in h3 fun i hi => (hσρ i hi).symm)
  · rw [ren_id, ren_id]
    exact ren_in h3 fun i hi => hk _ (hx i hi)
  · rw [outLog_eq]
    have q : ∀ {j : Nat} {b : Blk}, memL (out.map (idB σ)) j = some b → ∃ i c, i < τ.length + d ∧ σ i = j ∧ memL out i = some c ∧ b = (c.1.map (id0 σ), c.2) := fun {j b} e => o2 j b e
    refine ⟨gm.s, fun {j b} e => ?_, fun {j cs T r} e v hv => ?_, fun {j cs T r} e => ?_, fun {i j b c} e e' hij => ?_⟩
    · obtain ⟨i, c, hi, rfl, hc, rfl⟩ := q e
      exact ⟨hx i hi, by rw [hσρ i hi]; exact (gm.dom hc).2⟩
    · obtain ⟨i, c, hi, rfl, hc, hb⟩ := q e
      obtain ⟨c1, c2, c3⟩ := c
      simp only [Prod.mk.injEq] at hb
      obtain ⟨rfl, rfl, rfl⟩ := hb
      obtain ⟨u, hu, rfl⟩ := List.mem_map.1 hv
      exact fit0 ((inBlks_spec h4 hc).2 u hu)
    · obtain ⟨i, c, hi, rfl, hc, hb⟩ := q e
      obtain ⟨c1, c2, c3⟩ := c
      simp only [Prod.mk.injEq] at hb
      obtain ⟨rfl, rfl, rfl⟩ := hb
      rw [hσρ i hi]
      refine lies_id.2 ((gm.lies hc).ren (D := fun i => i < τ.length + d) (fun v hv => Fit0.of_in ((inBlks_spec h4 hc).2 v hv)) fun i hi => (hσρ i hi).symm)
    · obtain ⟨i', c', hi, rfl, hc, rfl⟩ := q e
      obtain ⟨j', d', hj, rfl, hd', rfl⟩ := q e'
      rw [hσρ i' hi, hσρ j' hj]
      exact gm.inj hc hd' fun he => hij (by rw [he])
  · exact g.kept.mono fun b _ ⟨i, c, hi, hb⟩ => ⟨σ i, _, (hm0 hi).2, hb⟩
  · rw [outLog_eq] at e
    obtain ⟨i, c, hi, rfl, hc, rfl⟩ := o2 j b e
    have hit : τ.length ≤ i := by
      rcases Nat.lt_or_ge i τ.length with hit | hit
      · exact absurd ⟨j1, j2⟩ (hd _ (hD i hit))
      · exact hit
    rw [hσρ i hi]
    exact (gn i c hit (by omega) hc).imp id fun ⟨i, c, hi, hb⟩ => ⟨σ i, _, (hm0 hi).2, hb⟩
end Rx
end Go.Proofs.YtedfdphapcanoaaGreatDoor
