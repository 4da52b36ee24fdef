/- Several texts of this claim, one behind the other. -/
import Derived.Test.YtedfdphapcanoaaGreatDoorM11
import Derived.KernelRfl
import Derived.Test.YtedfdphapcanoaaGreatDoorProg

section
/- A run reckoned by the kernel: blocks under new names behind a call, behind a round. No program. -/
set_option linter.unusedVariables false
set_option linter.unusedSimpArgs false
namespace Go.Proofs.YtedfdphapcanoaaGreatDoor
open Go.RowKit Go.Lib
namespace Rx
variable {P : Program} {A : Amb}

/-- a function's first loop -/
def loopIn : Code → Option Code
  | .loop c => some c
  | .seq a b => match loopIn a with | some c => some c | none => loopIn b
  | .block _ c => loopIn c
  | .cond _ a b => match loopIn a with | some c => some c | none => loopIn b
  | _ => none
def loopOf (P : Program) (f : FuncId) : Code := (((P.funcs[f]?).bind (·.body)).bind loopIn).getD .skip
/-- the place in a list -/
def atN : List Nat → Nat → Nat → Option Nat
  | [], _, _ => none
  | x :: l, j, k => cond (Nat.beq x j) (some k) (atN l j (k + 1))
theorem atN_some : ∀ {l : List Nat} {j k i : Nat}, atN l j k = some i → k ≤ i ∧ l[i - k]? = some j
  | [], j, k, i, h => by cases h
  | x :: l, j, k, i, h => by
    simp only [atN] at h
    cases hx : Nat.beq x j <;> simp only [hx, cond] at h
    · obtain ⟨h1, h2⟩ := atN_some h
      refine ⟨by omega, ?_⟩
      rw [show i - k = (i - (k + 1)) + 1 by omega, List.getElem?_cons_succ]
      exact h2
    · simp only [Option.some.injEq] at h
      subst h
      refine ⟨Nat.le_refl _, ?_⟩
      rw [Nat.sub_self, List.getElem?_cons_zero, Nat.eq_of_beq_eq_true hx]
theorem atN_none : ∀ {l : List Nat} {j k : Nat}, atN l j k = none → j ∉ l
  | [], j, k, h => by simp
  | x :: l, j, k, h => by
    simp only [atN] at h
    cases hx : Nat.beq x j <;> simp only [hx, cond] at h
    · have := atN_none h
      simp only [List.mem_cons, not_or]
      exact ⟨fun e => Nat.ne_of_beq_eq_false hx e.symm, this⟩
    · cases h
/-- new names for these, from nx on -/
def mov (τ : List Nat) (nx : Nat) (j : Nat) : Nat := match atN τ j 0 with | some k => nx + k | none => j
def live (τ : List Nat) (nx : Nat) (j : Nat) : Bool := (atN τ j 0).isSome || Nat.blt j nx
theorem mov_in {τ : List Nat} {nx j : Nat} (h : j ∈ τ) : ∃ k, k < τ.length ∧ τ[k]? = some j ∧ mov τ nx j = nx + k := by
  unfold mov
  cases hx : atN τ j 0 with
  | none => exact absurd h (atN_none hx)
  | some k =>
    have := (atN_some hx).2
    rw [Nat.sub_zero] at this
    exact ⟨k, (List.getElem?_eq_some_iff.1 this).1, this, rfl⟩
theorem mov_out {τ : List Nat} {nx j : Nat} (h : j ∉ τ) : mov τ nx j = j := by
  unfold mov
  cases hx : atN τ j 0 with
  | none => rfl
  | some k =>
    have := (atN_some hx).2
    exact absurd (List.mem_of_getElem? this) h
theorem live_spec {τ : List Nat} {nx j : Nat} (h : live τ nx j = true) : j ∈ τ ∨ (j ∉ τ ∧ j < nx) := by
  by_cases hj : j ∈ τ
  · exact Or.inl hj
  · unfold live at h
    cases hx : atN τ j 0 with
    | none => rw [hx] at h; exact Or.inr ⟨hj, by simpa [Nat.blt_eq] using h⟩
    | some k => exact absurd (List.mem_of_getElem? (atN_some hx).2) hj
theorem mov_inj {τ : List Nat} {nx i j : Nat} (hn : τ.Nodup) (hi : live τ nx i = true) (hj : live τ nx j = true) (h : mov τ nx i = mov τ nx j) : i = j := by
  rcases live_spec hi with hi | ⟨hi, hi'⟩ <;> rcases live_spec hj with hj | ⟨hj, hj'⟩
  · obtain ⟨k, k1, k2, k3⟩ := mov_in (nx := nx) hi
    obtain ⟨q, q1, q2, q3⟩ := mov_in (nx := nx) hj
    have : k = q := by omega
    subst this
    rw [k2] at q2
    exact Option.some.inj q2
  · obtain ⟨k, k1, k2, k3⟩ := mov_in (nx := nx) hi
    rw [k3, mov_out hj] at h
    omega
  · obtain ⟨k, k1, k2, k3⟩ := mov_in (nx := nx) hj
    rw [k3, mov_out hi] at h
    omega
  · rwa [mov_out hi, mov_out hj] at h
def liveV (τ : List Nat) (nx : Nat) (v : Value) : Bool := inP (live τ nx) v
def liveB (τ : List Nat) (nx : Nat) (l : List (Nat × Blk)) : Bool := l.all fun e => live τ nx e.1 && e.2.1.all (in0 (live τ nx))
theorem liveB_spec {τ : List Nat} {nx : Nat} {l : List (Nat × Blk)} (h : liveB τ nx l = true) {i : Nat} {b : Blk} (k : memL l i = some b) : live τ nx i = true ∧ ∀ v ∈ b.1, in0 (live τ nx) v = true := by
  have := List.all_eq_true.1 h _ (memL_mem k)
  simp only [Bool.and_eq_true] at this
  exact ⟨this.1, fun v hv => List.all_eq_true.1 this.2 v hv⟩
theorem memL_mov {σ : Nat → Nat} {p : Nat → Bool} (hσ : ∀ i j, p i = true → p j = true → σ i = σ j → i = j) : ∀ {l : List (Nat × Blk)}, (∀ e ∈ l, p e.1 = true) →
    ∀ j b, memL (l.map (idB σ)) j = some b → ∃ i c, p i = true ∧ σ i = j ∧ memL l i = some c ∧ b = (c.1.map (id0 σ), c.2)
  | [], _, _, _, h => by cases h
  | e :: l, hk, j, b, hb => by
    obtain ⟨q, c⟩ := e
    have hq : p q = true := hk (q, c) (by simp)
    simp only [List.map_cons, memL, idB, Mem.put] at hb
    cases hj : Nat.beq j (σ q) <;> simp only [hj, cond] at hb
    · obtain ⟨i, c', hi, hs, hm, hbc⟩ := memL_mov hσ (l := l) (fun e he => hk e (by simp [he])) j b hb
      refine ⟨i, c', hi, hs, ?_, hbc⟩
      simp only [memL, Mem.put]
      have : Nat.beq i q = false := by
        cases hb2 : Nat.beq i q
        · rfl
        · rw [← hs, Nat.eq_of_beq_eq_true hb2] at hj
          simp at hj
      rw [this]
      exact hm
    · simp only [Option.some.injEq] at hb
      refine ⟨q, c, hq, (Nat.eq_of_beq_eq_true hj).symm, ?_, hb.symm⟩
      simp [memL, Mem.put]
/-- what became of blocks, under new names -/
theorem Aft.re {D : Nat → Prop} {ρ ρ' : Nm} {sn out : List (Nat × Blk)} {nx nx' : Nat} {w w' : World} {v : Value} (τ : List Nat) (hm : MemOK P A D ρ (memL sn) w) (hD : ∀ i, D i → ¬ (nx ≤ i ∧ i < nx + τ.length)) (h : Aft P A D ρ (memL sn) nx w v (outLog sn out) nx' ρ' w')
    (hn : τ.Nodup) (ho : LogOK (memL sn) nx nx' (outLog sn out)) (h3 : liveV τ nx v = true) (h4 : liveB τ nx out = true) :
    ∃ ρ2, Aft P A D ρ (memL sn) nx w (idV (mov τ nx) v) (outLog sn (out.map (idB (mov τ nx)))) (nx + τ.length) ρ2 w' ∧ ∀ u, liveV τ nx u = true → Fit (ext D nx nx') u → ren ρ2 (idV (mov τ nx) u) = ren ρ' u ∧ Fit (ext D nx (nx + τ.length)) (idV (mov τ nx) u) := by
  obtain ⟨ρ2, hρ2⟩ : ∃ ρ2 : Nm, ρ2 = fun j => if nx ≤ j ∧ j < nx + τ.length then ρ' (τ[j - nx]?.getD 0) else ρ j := ⟨_, rfl⟩
  have same : ∀ i, ¬ (nx ≤ i ∧ i < nx + τ.length) → ρ2 i = ρ i := fun i hi => by rw [hρ2]; simp only; rw [if_neg hi]
  have hσ : ∀ i, live τ nx i = true → (i ∉ τ → D i) → ρ2 (mov τ nx i) = ρ' i ∧ ext D nx (nx + τ.length) (mov τ nx i) := fun i hi hd => by
    rcases live_spec hi with hi | ⟨hi, hlt⟩
    · obtain ⟨k, k1, k2, k3⟩ := mov_in (nx := nx) hi
      refine ⟨?_, Or.inr (by omega)⟩
      rw [k3, hρ2]; simp only
      rw [if_pos (by omega), show nx + k - nx = k by omega, k2]
      rfl
    · rw [mov_out hi]
      refine ⟨?_, Or.inl (hd hi)⟩
      rw [same i (by omega)]
      exact (h.same i (by omega)).symm
  have toD : ∀ {i : Nat}, ext D nx nx' i → live τ nx i = true → i ∉ τ → D i := fun {i} hi hl hn => by
    rcases hi with hi | hi
    · exact hi
    · rcases live_spec hl with hl | hl
      · exact absurd hl hn
      · omega
  have gm := h.mem
  rw [outLog_eq] at gm
  have vals : ∀ u, liveV τ nx u = true → Fit (ext D nx nx') u → ren ρ2 (idV (mov τ nx) u) = ren ρ' u ∧ Fit (ext D nx (nx + τ.length)) (idV (mov τ nx) u) := fun u hu hf => by
    have hf2 := hf.inter (Fit.of_inP hu)
    refine ⟨?_, fun ρ3 ρ4 hk => ?_⟩
    · rw [ren_id]
      exact hf2 _ _ fun i hi => (hσ i hi.2 (toD hi.1 hi.2)).1
    · rw [ren_id, ren_id]
      exact hf2 _ _ fun i hi => hk _ (hσ i hi.2 (toD hi.1 hi.2)).2
  have vals0 : ∀ u, in0 (live τ nx) u = true → Fit0 (ext D nx nx') u → (ren0 ρ2 (id0 (mov τ nx) u) = ren0 ρ' u) ∧ Fit0 (ext D nx (nx + τ.length)) (id0 (mov τ nx) u) := fun u hu hf => by
    have hf2 := hf.inter (Fit0.of_inP hu)
    refine ⟨?_, fun ρ3 ρ4 hk => ?_⟩
    · rw [ren0_id]
      exact hf2 _ _ fun i hi => (hσ i hi.2 (toD hi.1 hi.2)).1
    · rw [ren0_id, ren0_id]
      exact hf2 _ _ fun i hi => hk _ (hσ i hi.2 (toD hi.1 hi.2)).2
  have q := memL_mov (σ := mov τ nx) (p := live τ nx) (fun i j hi hj e => mov_inj hn hi hj e) (l := out) fun e he => (by
    have := List.all_eq_true.1 h4 e he
    simp only [Bool.and_eq_true] at this
    exact this.1)
  refine ⟨ρ2, ⟨same, (vals v h3 h.fit).2, ?_, h.kept, fun j b j1 j2 e => ?_⟩, vals⟩
  · rw [outLog_eq]
    refine ⟨gm.s, fun {j b} e => ?_, fun {j cs T r} e u hu => ?_, fun {j cs T r} e => ?_, fun {i j b c} e e' hij => ?_⟩
    · obtain ⟨i, c, hi, rfl, hc, rfl⟩ := q _ _ e
      have hd := gm.dom hc
      obtain ⟨e1, e2⟩ := hσ i hi (toD hd.1 hi)
      exact ⟨e2, by rw [e1]; exact hd.2⟩
    · obtain ⟨i, c, hi, rfl, hc, hb⟩ := q _ _ e
      obtain ⟨c1, c2, c3⟩ := c
      simp only [Prod.mk.injEq] at hb
      obtain ⟨rfl, rfl, rfl⟩ := hb
      obtain ⟨y, hy, rfl⟩ := List.mem_map.1 hu
      exact (vals0 y ((liveB_spec h4 hc).2 y hy) (gm.fit hc y hy)).2
    · obtain ⟨i, c, hi, rfl, hc, hb⟩ := q _ _ e
      obtain ⟨c1, c2, c3⟩ := c
      simp only [Prod.mk.injEq] at hb
      obtain ⟨rfl, rfl, rfl⟩ := hb
      have hd := gm.dom hc
      rw [(hσ i hi (toD hd.1 hi)).1]
      obtain ⟨rest, fr, k1, k2, k3⟩ := gm.lies hc
      refine ⟨rest, fr, ?_, ?_, ?_⟩
      · rw [k1, List.map_map]
        have he : c1.map (ren0 ρ') = c1.map (ren0 ρ2 ∘ id0 (mov τ nx)) := List.map_congr_left fun u hu => (vals0 u ((liveB_spec h4 hc).2 u hu) (gm.fit hc u hu)).1.symm
        rw [he]
      · rw [List.length_map]; exact k2
      · rw [List.length_map]; exact k3
    · obtain ⟨i', c', hi, rfl, hc, rfl⟩ := q _ _ e
      obtain ⟨j', d', hj, rfl, hd', rfl⟩ := q _ _ e'
      rw [(hσ i' hi (toD (gm.dom hc).1 hi)).1, (hσ j' hj (toD (gm.dom hd').1 hj)).1]
      exact gm.inj hc hd' fun he => hij (by rw [he])
  · rw [outLog_eq] at e
    obtain ⟨i, c, hi, rfl, hc, rfl⟩ := q _ _ e
    have hd := gm.dom hc
    rw [(hσ i hi (toD hd.1 hi)).1]
    by_cases hlt : nx ≤ i ∧ i < nx'
    · exact h.new i c hlt.1 hlt.2 (by rw [outLog_eq]; exact hc)
    · refine Or.inr ?_
      rw [h.same i hlt]
      have hl : (i, some c) ∈ outLog sn out := List.mem_append_left _ (List.mem_map.2 ⟨(i, c), memL_mem hc, rfl⟩)
      rcases ho _ hl with h0 | h0
      · obtain ⟨b, hb⟩ := Option.isSome_iff_exists.1 h0
        exact ⟨i, b, hb, rfl⟩
      · exact absurd h0 hlt
theorem FrL.re {D : Nat → Prop} {nx nx' m : Nat} {ρ' ρ2 : Nm} {vals : List (Nat × Value)} {a : Act} {σ : Nat → Nat} {p : Value → Bool} (hf : FrL (ext D nx nx') ρ' vals a) (hp : vals.all (fun e => p e.2) = true)
    (h : ∀ u, p u = true → Fit (ext D nx nx') u → ren ρ2 (idV σ u) = ren ρ' u ∧ Fit (ext D nx m) (idV σ u)) : FrL (ext D nx m) ρ2 (vals.map fun e => (e.1, idV σ e.2)) a := by
  intro t u hu
  have : ∀ {l : List (Nat × Value)} {t : Nat} {u : Value}, envL (l.map fun e => (e.1, idV σ e.2)) t = some u → ∃ v, envL l t = some v ∧ u = idV σ v := by
    intro l
    induction l with
    | nil => intro t u h; cases h
    | cons e l ih =>
      obtain ⟨j, c⟩ := e
      intro t u h
      simp only [List.map_cons, envL, Env.put] at h ⊢
      cases hj : Nat.beq t j <;> simp only [hj, cond] at h ⊢
      · exact ih h
      · simp only [Option.some.injEq] at h
        exact ⟨c, rfl, h.symm⟩
  obtain ⟨v, hv, rfl⟩ := this hu
  obtain ⟨h1, h2⟩ := hf t v hv
  obtain ⟨h3, h4⟩ := h v (List.all_eq_true.1 hp _ (envL_mem hv)) h2
  exact ⟨by rw [h1, h3], h4⟩
theorem Aft.wide {D E : Nat → Prop} {ρ ρ' : Nm} {m : Mem} {l : Log} {nx nx' : Nat} {w w' : World} {v : Value} (h : Aft P A D ρ m nx w v l nx' ρ' w') (hd : ∀ i, D i → E i) : Aft P A E ρ m nx w v l nx' ρ' w' :=
  have he : ∀ i, ext D nx nx' i → ext E nx nx' i := fun i hi => hi.imp (hd i) id
  ⟨h.same, h.fit.mono he, ⟨h.mem.s, fun e => ⟨he _ (h.mem.dom e).1, (h.mem.dom e).2⟩, fun e v hv => (h.mem.fit e v hv).mono he, h.mem.lies, h.mem.inj⟩, h.kept, h.new⟩
theorem MemOK.below {D : Nat → Prop} {ρ : Nm} {sn : List (Nat × Blk)} {w : World} {nx : Nat} (h : MemOK P A D ρ (memL sn) w) (h2 : inBlks nx sn = true) : MemOK P A (fun i => D i ∧ i < nx) ρ (memL sn) w :=
  ⟨h.s, fun {i b} e => ⟨⟨(h.dom e).1, (inBlks_spec h2 (cs := b.1) (T := b.2.1) (r := b.2.2) e).1⟩, (h.dom e).2⟩, fun {i cs T r} e v hv => (h.fit e v hv).inter (Fit0.of_in ((inBlks_spec h2 e).2 v hv)), h.lies, h.inj⟩
/-- a call's new blocks under other names -/
theorem CallJ.re {f : FuncId} {args : List Value} {sn out : List (Nat × Blk)} {nx d : Nat} {v : Value} (h : CallJ P A f args sn nx v out (nx + d)) (τ : List Nat) (hn : τ.Nodup := by decide) (ho : outOK (sn.map (·.1)) nx d out = true := by kernel_rfl)
    (h3 : liveV τ nx v = true := by kernel_rfl) (h4 : liveB τ nx out = true := by kernel_rfl) (h1 : args.all (inV nx) = true := by kernel_rfl) (h2 : inBlks nx sn = true := by kernel_rfl) : CallJ P A f args sn nx (idV (mov τ nx) v) (out.map (idB (mov τ nx))) (nx + τ.length) := by
  intro D ρ w hm hf hd
  refine (h (fun i => D i ∧ i < nx) ρ w (hm.below h2) (fun u hu => (hf u hu).inter (Fit.of_in (List.all_eq_true.1 h1 u hu))) (fun i hi k => by omega)).mono ?_
  rintro e w' ⟨ρ', rfl, k⟩
  obtain ⟨ρ2, k2, hv⟩ := Aft.re τ (hm.below h2) (fun i hi k => by omega) k hn (outLog_ok2 ho) h3 h4
  exact ⟨ρ2, congrArg Ending.returned (hv v h3 k.fit).1.symm, k2.wide fun i hi => hi.1⟩
/-! ### loops whose rounds give some blocks new names -/
/-- a round: of m moving names from nx on, behind it of m' ones -/
def CodeR (P : Program) (A : Amb) (c : Code) (n : Nat) (vals : List (Nat × Value)) (sn : List (Nat × Blk)) (base : List Nat) (nx m : Nat) (x : X) (vals' : List (Nat × Value)) (out' : List (Nat × Blk)) (m' : Nat) : Prop :=
  ∃ (τ : List Nat) (d : Nat) (v1 : List (Nat × Value)) (o1 : List (Nat × Blk)), CodeJ P A c n vals sn (nx + m) x v1 o1 (nx + m + d) ∧ τ.length = m' ∧ τ.Nodup ∧ outOK (sn.map (·.1)) (nx + m) d o1 = true ∧ outOK base nx (m + d) o1 = true ∧
    v1.all (fun e => liveV τ nx e.2) = true ∧ liveB τ nx o1 = true ∧ (v1.map fun e => (e.1, idV (mov τ nx) e.2)) = vals' ∧ o1.map (idB (mov τ nx)) = out'
theorem CodeJ.round {c : Code} {n : Nat} {vals v1 vals' : List (Nat × Value)} {sn o1 out' : List (Nat × Blk)} {base : List Nat} {nx m d : Nat} {x : X} (h : CodeJ P A c n vals sn (nx + m) x v1 o1 (nx + m + d)) (τ : List Nat) (h1 : (v1.map fun e => (e.1, idV (mov τ nx) e.2)) = vals' := by kernel_rfl) (h2 : o1.map (idB (mov τ nx)) = out' := by kernel_rfl)
    (hn : τ.Nodup := by decide) (ho : outOK (sn.map (·.1)) (nx + m) d o1 = true := by kernel_rfl) (hb : outOK base nx (m + d) o1 = true := by kernel_rfl) (h3 : v1.all (fun e => liveV τ nx e.2) = true := by kernel_rfl) (h4 : liveB τ nx o1 = true := by kernel_rfl) :
    CodeR P A c n vals sn base nx m x vals' out' τ.length := ⟨τ, d, v1, o1, h, rfl, hn, ho, hb, h3, h4, h1, h2⟩
theorem outOK_ids {ids : List Nat} {nx d : Nat} {o1 o2 : List (Nat × Blk)} (h : outOK ids nx d o1 = true) (e : o2.map (·.1) = o1.map (·.1)) : outOK ids nx d o2 = true := by
  have key : ∀ o : List (Nat × Blk), outOK ids nx d o = (o.map (·.1)).all fun j => has1 ids j || (Nat.ble nx j && Nat.blt j (nx + d)) := fun o => by
    unfold outOK
    rw [List.all_map]
    rfl
  rw [key, e, ← key]
  exact h
theorem loopR {c : Code} {n : Nat} (inv : Nat → List (Nat × Value)) (mem : Nat → List (Nat × Blk)) {nx m m' : Nat} {x : X} {vals vals' : List (Nat × Value)} {sn out : List (Nat × Blk)} {base : List Nat} (τ : List Nat) (k : Nat)
    (hr : ∀ i, i < k → CodeR P A c n (inv i) (mem i) base nx m .nrm (inv (i + 1)) (mem (i + 1)) m) (he : CodeR P A c n (inv k) (mem k) base nx m x vals' out m')
    (hv : (vals.map fun e => (e.1, idV (mov τ nx) e.2)) = inv 0 := by kernel_rfl) (hs : sn.map (idB (mov τ nx)) = mem 0 := by kernel_rfl) (hb : sn.map (·.1) = base := by kernel_rfl) (hl : τ.length = m := by kernel_rfl) (hn : τ.Nodup := by decide)
    (l1 : vals.all (fun e => liveV τ nx e.2) = true := by kernel_rfl) (l2 : liveB τ nx sn = true := by kernel_rfl) (i1 : inVals nx vals = true := by kernel_rfl) (i2 : inBlks nx sn = true := by kernel_rfl)
    (hids : ∀ i, (mem i).map (·.1) = (mem 0).map (·.1) := by intro i; rfl) (ho : outOK base nx m (mem 0) = true := by kernel_rfl) (hx : x ≠ .nrm := by intro h; cases h) :
    CodeJ P A (.loop c) n vals sn nx x vals' out (nx + m') := by
  subst hl hb
  intro D ρ a w Q hf hsz hdf hmem hd hk
  refine wp_of_wpL ?_
  have hf0 : FrL (fun i => D i ∧ i < nx) ρ vals a := fun t u hu => ⟨(hf t u hu).1, (hf t u hu).2.inter (Fit.of_in (List.all_eq_true.1 i1 _ (envL_mem hu)))⟩
  have hm0 := hmem.below i2
  generalize hE : (fun i => D i ∧ i < nx) = E at hf0 hm0
  have hlt : ∀ i, E i → i < nx := fun i hi => by rw [← hE] at hi; exact hi.2
  have hED : ∀ i, E i → D i := fun i hi => by rw [← hE] at hi; exact hi.1
  -- what comes behind the last round
  have hk2 : ∀ ρ' a' w', FrL (ext E nx (nx + m')) ρ' vals' a' → a'.tmps.size = n → a'.defers = [] → Aft P A E ρ (memL sn) nx w undef (outLog sn out) (nx + m') ρ' w' → Q (exitOf x) a' w' := fun ρ' a' w' g1 g2 g3 g4 =>
    hk ρ' a' w' (fun t u hu => ⟨(g1 t u hu).1, (g1 t u hu).2.mono fun i hi => hi.imp (hED i) id⟩) g2 g3 (g4.wide hED)
  -- a round, from the state behind some
  have one : ∀ (i : Nat) (x : X) (vs : List (Nat × Value)) (o : List (Nat × Blk)) (q : Nat), CodeR P A c n (inv i) (mem i) (sn.map (·.1)) nx τ.length x vs o q → ∀ (ρ1 : Nm) (a1 : Act) (w1 : World) (Q1 : Exit → Act → World → Prop), FrL (ext E nx (nx + τ.length)) ρ1 (inv i) a1 → a1.tmps.size = n → a1.defers = [] →
      Aft P A E ρ (memL sn) nx w undef (outLog sn (mem i)) (nx + τ.length) ρ1 w1 →
      (∀ ρ' a' w', FrL (ext E nx (nx + q)) ρ' vs a' → a'.tmps.size = n → a'.defers = [] → Aft P A E ρ (memL sn) nx w undef (outLog sn o) (nx + q) ρ' w' → Q1 (exitOf x) a' w') → c.wp P Q1 a1 w1 := by
    rintro i x vs o q ⟨τ', d, v1, o1, hc, rfl, hn', ho1, ho2, hl1, hl2, rfl, rfl⟩ ρ1 a1 w1 Q1 g1 g2 g3 g4 kk
    have m1 := g4.mem
    rw [outLog_eq] at m1
    refine hc _ ρ1 a1 w1 Q1 g1 g2 g3 m1 (fun i hi h => by
      rcases hi with hi | hi
      · have := hlt i hi; omega
      · omega) fun ρ2 a2 w2 q1 q2 q3 q4 => ?_
    have lo1 : LogOK (memL sn) nx (nx + τ.length) (outLog sn (mem i)) := outLog_ok2 (outOK_ids ho (hids i))
    obtain ⟨t1, t2⟩ := CodeJ.trans_aft (n := n) (Nat.le_add_right _ _) (Nat.le_add_right _ _) lo1 (outLog_ok2 ho1) hm0 (fun i hi h => by have := hlt i hi; omega) g1 g2 g3 g4 q1 q2 q3 q4
    have lo2 : LogOK (memL sn) nx (nx + τ.length + d) (outLog sn o1) := by rw [Nat.add_assoc]; exact outLog_ok2 ho2
    obtain ⟨ρ3, t3, hv3⟩ := Aft.re τ' hm0 (fun i hi h => by have := hlt i hi; omega) t2 hn' lo2 rfl hl2
    exact kk ρ3 a2 w2 (t1.re hl1 hv3) q2 q3 t3
  have key : ∀ (j i : Nat), i + j = k → ∀ (ρ1 : Nm) (a1 : Act) (w1 : World), FrL (ext E nx (nx + τ.length)) ρ1 (inv i) a1 → a1.tmps.size = n → a1.defers = [] → Aft P A E ρ (memL sn) nx w undef (outLog sn (mem i)) (nx + τ.length) ρ1 w1 → wpL P c Q a1 w1 := by
    intro j
    induction j with
    | zero =>
      intro i hi ρ1 a1 w1 g1 g2 g3 g4
      rw [Nat.add_zero] at hi
      subst hi
      refine wpL_step (one i x vals' out m' he ρ1 a1 w1 _ g1 g2 g3 g4 fun ρ' a' w' q1 q2 q3 q4 => ?_)
      have := hk2 ρ' a' w' q1 q2 q3 q4
      cases x <;> first | exact absurd rfl hx | exact this
    | succ j ih =>
      intro i hi ρ1 a1 w1 g1 g2 g3 g4
      exact wpL_step (one i .nrm _ _ _ (hr i (by omega)) ρ1 a1 w1 _ g1 g2 g3 g4 fun ρ' a' w' q1 q2 q3 q4 => ih (i + 1) (by omega) ρ' a' w' q1 q2 q3 q4)
  -- the first names
  have k0 : Aft P A E ρ (memL sn) nx w undef (outLog sn sn) nx ρ w := ⟨fun _ _ => rfl, Fit.real rfl, by
    rw [outLog_eq]
    exact ⟨hm0.s, fun e => ⟨Or.inl (hm0.dom e).1, (hm0.dom e).2⟩, fun e v hv => (hm0.fit e v hv).mono fun i hi => Or.inl hi, hm0.lies, hm0.inj⟩, Kept.refl _ _, fun i b h1 h2 => by omega⟩
  obtain ⟨ρ1, t1, hv1⟩ := Aft.re τ hm0 (fun i hi h => by have := hlt i hi; omega) k0 hn (outLog_ok2 (d := 0) (outOK_same rfl)) rfl l2
  have f1 : FrL (ext E nx (nx + τ.length)) ρ1 (inv 0) a := by
    rw [← hv]
    exact FrL.re (nx' := nx) (fun t u hu => ⟨(hf0 t u hu).1, (hf0 t u hu).2.mono fun i hi => Or.inl hi⟩) l1 hv1
  rw [hs] at t1
  exact key k 0 (by omega) ρ1 a w f1 hsz hdf t1
end Rx
end Go.Proofs.YtedfdphapcanoaaGreatDoor
end

section
/- The chapter's box: its datagrams. -/
set_option linter.unusedVariables false
namespace Go.Proofs.YtedfdphapcanoaaGreatDoor
open Go.RowKit Go.Lib

def pkA : ByteArray := { data := #[69, 0, 0, 31, 0, 0, 0, 0, 64, 17, 96, 190, 10, 0, 0, 1, 8, 8, 8, 8, 15, 160, 0, 53, 0, 11, 17, 144, 97, 98, 99] }
def pkB : ByteArray := { data := #[69, 0, 0, 31, 0, 0, 0, 0, 64, 17, 88, 173, 8, 8, 8, 8, 9, 9, 9, 9, 0, 53, 3, 233, 0, 11, 21, 54, 97, 98, 99] }
def pkC : ByteArray := { data := #[69, 0, 0, 31, 0, 0, 0, 0, 64, 17, 96, 189, 10, 0, 0, 2, 8, 8, 8, 8, 15, 160, 0, 53, 0, 11, 17, 143, 97, 98, 99] }
def oneV : Value := .agg #[.int .u32 167772161, .int .u16 4000]
def twoV : Value := .agg #[.int .u32 167772162, .int .u16 4000]
def farV : Value := .agg #[.int .u32 134744072, .int .u16 53]
def outV : Value := .agg #[.int .u32 151587081, .int .u16 1001]
theorem dg_A (w : World) : Calls Tryz.prog 10 #[oneV, farV] w (Ret (.string pkA) w) := Rx.run (args := [oneV, farV]) []
theorem dg_B (w : World) : Calls Tryz.prog 10 #[farV, outV] w (Ret (.string pkB) w) := Rx.run (args := [farV, outV]) []
theorem dg_C (w : World) : Calls Tryz.prog 10 #[twoV, farV] w (Ret (.string pkC) w) := Rx.run (args := [twoV, farV]) []
end Go.Proofs.YtedfdphapcanoaaGreatDoor
end
