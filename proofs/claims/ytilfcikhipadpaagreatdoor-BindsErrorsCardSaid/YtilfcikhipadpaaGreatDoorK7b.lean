/- Several texts of this claim, one behind the other. -/
import Derived.Test.YtilfcikhipadpaaGreatDoorK6b
import Derived.Laws.Strings
import Derived.RangeFuncNested
import Derived.RangeFuncBound
import Derived.RangeFuncCalls
import Derived.RangeFuncLeaves
import Derived.Shelf.Abstract
import Derived.Shelf.RegionOpen
import Derived.WalkKit
import Derived.OwnWalkIn
import Derived.TacticsInMore
import Derived.LoopNIn
import Derived.LoopIn

section
/- A run reckoned by the kernel: blocks under new names behind a call, behind a round. No program. -/
set_option linter.unusedVariables false
set_option linter.unusedSimpArgs false
namespace Go.Proofs.YtilfcikhipadpaaGreatDoor
open Go.RowKit Go.Lib
namespace Rx
variable {P : Program} {A : Amb}

/-- the same of what is not so -/
def nyes (n : Nat) {b : Bool} (h : b = false) : Ev P A := yes n (b := !b) (by rw [h]; rfl)
def nno (n : Nat) {b : Bool} (h : b = true) : Ev P A := no n (b := !b) (by rw [h]; rfl)
def nisT (n : Nat) {b : Bool} (h : b = false) : Ev P A := isT n (b := !b) (by rw [h]; rfl)
def nisF (n : Nat) {b : Bool} (h : b = true) : Ev P A := isF n (b := !b) (by rw [h]; rfl)
/-- a function's first loop -/
def loopIn : Code → Option Code
  | .loop c => some c
  | .seq a b => match loopIn a with | some c => some c | none => loopIn b
  | .block _ c => loopIn c
  | .cond _ a b => match loopIn a with | some c => some c | none => loopIn b
  | _ => none
def loopOf (P : Program) (f : FuncId) : Code := (((P.funcs[f]?).bind (·.body)).bind loopIn).getD .skip
/-- the place in a list -/
def atN : List Nat → Nat → Nat → Option Nat
  | [], _, _ => none
  | x :: l, j, k => cond (Nat.beq x j) (some k) (atN l j (k + 1))
theorem atN_some : ∀ {l : List Nat} {j k i : Nat}, atN l j k = some i → k ≤ i ∧ l[i - k]? = some j
  | [], j, k, i, h => by cases h
  | x :: l, j, k, i, h => by
    simp only [atN] at h
    cases hx : Nat.beq x j <;> simp only [hx, cond] at h
    · obtain ⟨h1, h2⟩ := atN_some h
      refine ⟨by omega, ?_⟩
      rw [show i - k = (i - (k + 1)) + 1 by omega, List.getElem?_cons_succ]
      exact h2
    · simp only [Option.some.injEq] at h
      subst h
      refine ⟨Nat.le_refl _, ?_⟩
      rw [Nat.sub_self, List.getElem?_cons_zero, Nat.eq_of_beq_eq_true hx]
theorem atN_none : ∀ {l : List Nat} {j k : Nat}, atN l j k = none → j ∉ l
  | [], j, k, h => by simp
  | x :: l, j, k, h => by
    simp only [atN] at h
    cases hx : Nat.beq x j <;> simp only [hx, cond] at h
    · have := atN_none h
      simp only [List.mem_cons, not_or]
      exact ⟨fun e => Nat.ne_of_beq_eq_false hx e.symm, this⟩
    · cases h
/-- new names for these, from nx on -/
def mov (τ : List Nat) (nx : Nat) (j : Nat) : Nat := match atN τ j 0 with | some k => nx + k | none => j
def live (τ : List Nat) (nx : Nat) (j : Nat) : Bool := (atN τ j 0).isSome || Nat.blt j nx
theorem mov_in {τ : List Nat} {nx j : Nat} (h : j ∈ τ) : ∃ k, k < τ.length ∧ τ[k]? = some j ∧ mov τ nx j = nx + k := by
  unfold mov
  cases hx : atN τ j 0 with
  | none => exact absurd h (atN_none hx)
  | some k =>
    have := (atN_some hx).2
    rw [Nat.sub_zero] at this
    exact ⟨k, (List.getElem?_eq_some_iff.1 this).1, this, rfl⟩
theorem mov_out {τ : List Nat} {nx j : Nat} (h : j ∉ τ) : mov τ nx j = j := by
  unfold mov
  cases hx : atN τ j 0 with
  | none => rfl
  | some k =>
    have := (atN_some hx).2
    exact absurd (List.mem_of_getElem? this) h
theorem live_spec {τ : List Nat} {nx j : Nat} (h : live τ nx j = true) : j ∈ τ ∨ (j ∉ τ ∧ j < nx) := by
  by_cases hj : j ∈ τ
  · exact Or.inl hj
  · unfold live at h
    cases hx : atN τ j 0 with
    | none => rw [hx] at h; exact Or.inr ⟨hj, by simpa [Nat.blt_eq] using h⟩
    | some k => exact absurd (List.mem_of_getElem? (atN_some hx).2) hj
theorem mov_inj {τ : List Nat} {nx i j : Nat} (hn : τ.Nodup) (hi : live τ nx i = true) (hj : live τ nx j = true) (h : mov τ nx i = mov τ nx j) : i = j := by
  rcases live_spec hi with hi | ⟨hi, hi'⟩ <;> rcases live_spec hj with hj | ⟨hj, hj'⟩
  · obtain ⟨k, k1, k2, k3⟩ := mov_in (nx := nx) hi
    obtain ⟨q, q1, q2, q3⟩ := mov_in (nx := nx) hj
    have : k = q := by omega
    subst this
    rw [k2] at q2
    exact Option.some.inj q2
  · obtain ⟨k, k1, k2, k3⟩ := mov_in (nx := nx) hi
    rw [k3, mov_out hj] at h
    omega
  · obtain ⟨k, k1, k2, k3⟩ := mov_in (nx := nx) hj
    rw [k3, mov_out hi] at h
    omega
  · rwa [mov_out hi, mov_out hj] at h
def liveV (τ : List Nat) (nx : Nat) (v : Value) : Bool := inP (live τ nx) v
def liveB (τ : List Nat) (nx : Nat) (l : List (Nat × Blk)) : Bool := l.all fun e => live τ nx e.1 && e.2.1.all (in0 (live τ nx))
theorem liveB_spec {τ : List Nat} {nx : Nat} {l : List (Nat × Blk)} (h : liveB τ nx l = true) {i : Nat} {b : Blk} (k : memL l i = some b) : live τ nx i = true ∧ ∀ v ∈ b.1, in0 (live τ nx) v = true := by
  have := List.all_eq_true.1 h _ (memL_mem k)
  simp only [Bool.and_eq_true] at this
  exact ⟨this.1, fun v hv => List.all_eq_true.1 this.2 v hv⟩
theorem memL_mov {σ : Nat → Nat} {p : Nat → Bool} (hσ : ∀ i j, p i = true → p j = true → σ i = σ j → i = j) : ∀ {l : List (Nat × Blk)}, (∀ e ∈ l, p e.1 = true) →
    ∀ j b, memL (l.map (idB σ)) j = some b → ∃ i c, p i = true ∧ σ i = j ∧ memL l i = some c ∧ b = (c.1.map (id0 σ), c.2)
  | [], _, _, _, h => by cases h
  | e :: l, hk, j, b, hb => by
    obtain ⟨q, c⟩ := e
    have hq : p q = true := hk (q, c) (by simp)
    simp only [List.map_cons, memL, idB, Mem.put] at hb
    cases hj : Nat.beq j (σ q) <;> simp only [hj, cond] at hb
    · obtain ⟨i, c', hi, hs, hm, hbc⟩ := memL_mov hσ (l := l) (fun e he => hk e (by simp [he])) j b hb
      refine ⟨i, c', hi, hs, ?_, hbc⟩
      simp only [memL, Mem.put]
      have : Nat.beq i q = false := by
        cases hb2 : Nat.beq i q
        · rfl
        · rw [← hs, Nat.eq_of_beq_eq_true hb2] at hj
          simp at hj
      rw [this]
      exact hm
    · simp only [Option.some.injEq] at hb
      refine ⟨q, c, hq, (Nat.eq_of_beq_eq_true hj).symm, ?_, hb.symm⟩
      simp [memL, Mem.put]
/-- what became of blocks, under new names -/
theorem Aft.re {D : Nat → Prop} {ρ ρ' : Nm} {sn out : List (Nat × Blk)} {nx nx' : Nat} {w w' : World} {v : Value} (τ : List Nat) (hm : MemOK P A D ρ (memL sn) w) (hD : ∀ i, D i → ¬ (nx ≤ i ∧ i < nx + τ.length)) (h : Aft P A D ρ (memL sn) nx w v (outLog sn out) nx' ρ' w')
    (hn : τ.Nodup) (ho : LogOK (memL sn) nx nx' (outLog sn out)) (h3 : liveV τ nx v = true) (h4 : liveB τ nx out = true) :
    ∃ ρ2, Aft P A D ρ (memL sn) nx w (idV (mov τ nx) v) (outLog sn (out.map (idB (mov τ nx)))) (nx + τ.length) ρ2 w' ∧ ∀ u, liveV τ nx u = true → Fit (ext D nx nx') u → ren ρ2 (idV (mov τ nx) u) = ren ρ' u ∧ Fit (ext D nx (nx + τ.length)) (idV (mov τ nx) u) := by
  obtain ⟨ρ2, hρ2⟩ : ∃ ρ2 : Nm, ρ2 = fun j => if nx ≤ j ∧ j < nx + τ.length then ρ' (τ[j - nx]?.getD 0) else ρ j := ⟨_, rfl⟩
  have same : ∀ i, ¬ (nx ≤ i ∧ i < nx + τ.length) → ρ2 i = ρ i := fun i hi => by rw [hρ2]; simp only; rw [if_neg hi]
  have hσ : ∀ i, live τ nx i = true → (i ∉ τ → D i) → ρ2 (mov τ nx i) = ρ' i ∧ ext D nx (nx + τ.length) (mov τ nx i) := fun i hi hd => by
    rcases live_spec hi with hi | ⟨hi, hlt⟩
    · obtain ⟨k, k1, k2, k3⟩ := mov_in (nx := nx) hi
      refine ⟨?_, Or.inr (by omega)⟩
      rw [k3, hρ2]; simp only
      rw [if_pos (by omega), show nx + k - nx = k by omega, k2]
      rfl
    · rw [mov_out hi]
      refine ⟨?_, Or.inl (hd hi)⟩
      rw [same i (by omega)]
      exact (h.same i (by omega)).symm
  have toD : ∀ {i : Nat}, ext D nx nx' i → live τ nx i = true → i ∉ τ → D i := fun {i} hi hl hn => by
    rcases hi with hi | hi
    · exact hi
    · rcases live_spec hl with hl | hl
      · exact absurd hl hn
      · omega
  have gm := h.mem
  rw [outLog_eq] at gm
  have vals : ∀ u, liveV τ nx u = true → Fit (ext D nx nx') u → ren ρ2 (idV (mov τ nx) u) = ren ρ' u ∧ Fit (ext D nx (nx + τ.length)) (idV (mov τ nx) u) := fun u hu hf => by
    have hf2 := hf.inter (Fit.of_inP hu)
    refine ⟨?_, fun ρ3 ρ4 hk => ?_⟩
    · rw [ren_id]
      exact hf2 _ _ fun i hi => (hσ i hi.2 (toD hi.1 hi.2)).1
    · rw [ren_id, ren_id]
      exact hf2 _ _ fun i hi => hk _ (hσ i hi.2 (toD hi.1 hi.2)).2
  have vals0 : ∀ u, in0 (live τ nx) u = true → Fit0 (ext D nx nx') u → (ren0 ρ2 (id0 (mov τ nx) u) = ren0 ρ' u) ∧ Fit0 (ext D nx (nx + τ.length)) (id0 (mov τ nx) u) := fun u hu hf => by
    have hf2 := hf.inter (Fit0.of_inP hu)
    refine ⟨?_, fun ρ3 ρ4 hk => ?_⟩
    · rw [ren0_id]
      exact hf2 _ _ fun i hi => (hσ i hi.2 (toD hi.1 hi.2)).1
    · rw [ren0_id, ren0_id]
      exact hf2 _ _ fun i hi => hk _ (hσ i hi.2 (toD hi.1 hi.2)).2
  have q := memL_mov (σ := mov τ nx) (p := live τ nx) (fun i j hi hj e => mov_inj hn hi hj e) (l := out) fun e he => (by
    have := List.all_eq_true.1 h4 e he
    simp only [Bool.and_eq_true] at this
    exact this.1)
  refine ⟨ρ2, ⟨same, (vals v h3 h.fit).2, ?_, h.kept, fun j b j1 j2 e => ?_⟩, vals⟩
  · rw [outLog_eq]
    refine ⟨gm.s, fun {j b} e => ?_, fun {j cs T r} e u hu => ?_, fun {j cs T r} e => ?_, fun {i j b c} e e' hij => ?_⟩
    · obtain ⟨i, c, hi, rfl, hc, rfl⟩ := q _ _ e
      have hd := gm.dom hc
      obtain ⟨e1, e2⟩ := hσ i hi (toD hd.1 hi)
      exact ⟨e2, by rw [e1]; exact hd.2⟩
    · obtain ⟨i, c, hi, rfl, hc, hb⟩ := q _ _ e
      obtain ⟨c1, c2, c3⟩ := c
      simp only [Prod.mk.injEq] at hb
      obtain ⟨rfl, rfl, rfl⟩ := hb
      obtain ⟨y, hy, rfl⟩ := List.mem_map.1 hu
      exact (vals0 y ((liveB_spec h4 hc).2 y hy) (gm.fit hc y hy)).2
    · obtain ⟨i, c, hi, rfl, hc, hb⟩ := q _ _ e
      obtain ⟨c1, c2, c3⟩ := c
      simp only [Prod.mk.injEq] at hb
      obtain ⟨rfl, rfl, rfl⟩ := hb
      have hd := gm.dom hc
      rw [(hσ i hi (toD hd.1 hi)).1]
      obtain ⟨rest, fr, k1, k2, k3⟩ := gm.lies hc
      refine ⟨rest, fr, ?_, ?_, ?_⟩
      · rw [k1, List.map_map]
        have he : c1.map (ren0 ρ') = c1.map (ren0 ρ2 ∘ id0 (mov τ nx)) := List.map_congr_left fun u hu => (vals0 u ((liveB_spec h4 hc).2 u hu) (gm.fit hc u hu)).1.symm
        rw [he]
      · rw [List.length_map]; exact k2
      · rw [List.length_map]; exact k3
    · obtain ⟨i', c', hi, rfl, hc, rfl⟩ := q _ _ e
      obtain ⟨j', d', hj, rfl, hd', rfl⟩ := q _ _ e'
      rw [(hσ i' hi (toD (gm.dom hc).1 hi)).1, (hσ j' hj (toD (gm.dom hd').1 hj)).1]
      exact gm.inj hc hd' fun he => hij (by rw [he])
  · rw [outLog_eq] at e
    obtain ⟨i, c, hi, rfl, hc, rfl⟩ := q _ _ e
    have hd := gm.dom hc
    rw [(hσ i hi (toD hd.1 hi)).1]
    by_cases hlt : nx ≤ i ∧ i < nx'
    · exact h.new i c hlt.1 hlt.2 (by rw [outLog_eq]; exact hc)
    · refine Or.inr ?_
      rw [h.same i hlt]
      have hl : (i, some c) ∈ outLog sn out := List.mem_append_left _ (List.mem_map.2 ⟨(i, c), memL_mem hc, rfl⟩)
      rcases ho _ hl with h0 | h0
      · obtain ⟨b, hb⟩ := Option.isSome_iff_exists.1 h0
        exact ⟨i, b, hb, rfl⟩
      · exact absurd h0 hlt
theorem FrL.re {D : Nat → Prop} {nx nx' m : Nat} {ρ' ρ2 : Nm} {vals : List (Nat × Value)} {a : Act} {σ : Nat → Nat} {p : Value → Bool} (hf : FrL (ext D nx nx') ρ' vals a) (hp : vals.all (fun e => p e.2) = true)
    (h : ∀ u, p u = true → Fit (ext D nx nx') u → ren ρ2 (idV σ u) = ren ρ' u ∧ Fit (ext D nx m) (idV σ u)) : FrL (ext D nx m) ρ2 (vals.map fun e => (e.1, idV σ e.2)) a := by
  intro t u hu
  have : ∀ {l : List (Nat × Value)} {t : Nat} {u : Value}, envL (l.map fun e => (e.1, idV σ e.2)) t = some u → ∃ v, envL l t = some v ∧ u = idV σ v := by
    intro l
    induction l with
    | nil => intro t u h; cases h
    | cons e l ih =>
      obtain ⟨j, c⟩ := e
      intro t u h
      simp only [List.map_cons, envL, Env.put] at h ⊢
      cases hj : Nat.beq t j <;> simp only [hj, cond] at h ⊢
      · exact ih h
      · simp only [Option.some.injEq] at h
        exact ⟨c, rfl, h.symm⟩
  obtain ⟨v, hv, rfl⟩ := this hu
  obtain ⟨h1, h2⟩ := hf t v hv
  obtain ⟨h3, h4⟩ := h v (List.all_eq_true.1 hp _ (envL_mem hv)) h2
  exact ⟨by rw [h1, h3], h4⟩
theorem Aft.wide {D E : Nat → Prop} {ρ ρ' : Nm} {m : Mem} {l : Log} {nx nx' : Nat} {w w' : World} {v : Value} (h : Aft P A D ρ m nx w v l nx' ρ' w') (hd : ∀ i, D i → E i) : Aft P A E ρ m nx w v l nx' ρ' w' :=
  have he : ∀ i, ext D nx nx' i → ext E nx nx' i := fun i hi => hi.imp (hd i) id
  ⟨h.same, h.fit.mono he, ⟨h.mem.s, fun e => ⟨he _ (h.mem.dom e).1, (h.mem.dom e).2⟩, fun e v hv => (h.mem.fit e v hv).mono he, h.mem.lies, h.mem.inj⟩, h.kept, h.new⟩
theorem MemOK.below {D : Nat → Prop} {ρ : Nm} {sn : List (Nat × Blk)} {w : World} {nx : Nat} (h : MemOK P A D ρ (memL sn) w) (h2 : inBlks nx sn = true) : MemOK P A (fun i => D i ∧ i < nx) ρ (memL sn) w :=
  ⟨h.s, fun {i b} e => ⟨⟨(h.dom e).1, (inBlks_spec h2 (cs := b.1) (T := b.2.1) (r := b.2.2) e).1⟩, (h.dom e).2⟩, fun {i cs T r} e v hv => (h.fit e v hv).inter (Fit0.of_in ((inBlks_spec h2 e).2 v hv)), h.lies, h.inj⟩
/-- a call's new blocks under other names -/
theorem CallJ.re {f : FuncId} {args : List Value} {sn out : List (Nat × Blk)} {nx d : Nat} {v : Value} (h : CallJ P A f args sn nx v out (nx + d)) (τ : List Nat) (hn : τ.Nodup := by decide) (ho : outOK (sn.map (·.1)) nx d out = true := by kernel_rfl)
    (h3 : liveV τ nx v = true := by kernel_rfl) (h4 : liveB τ nx out = true := by kernel_rfl) (h1 : args.all (inV nx) = true := by kernel_rfl) (h2 : inBlks nx sn = true := by kernel_rfl) : CallJ P A f args sn nx (idV (mov τ nx) v) (out.map (idB (mov τ nx))) (nx + τ.length) := by
  intro D ρ w hm hf hd
  refine (h (fun i => D i ∧ i < nx) ρ w (hm.below h2) (fun u hu => (hf u hu).inter (Fit.of_in (List.all_eq_true.1 h1 u hu))) (fun i hi k => by omega)).mono ?_
  rintro e w' ⟨ρ', rfl, k⟩
  obtain ⟨ρ2, k2, hv⟩ := Aft.re τ (hm.below h2) (fun i hi k => by omega) k hn (outLog_ok2 ho) h3 h4
  exact ⟨ρ2, congrArg Ending.returned (hv v h3 k.fit).1.symm, k2.wide fun i hi => hi.1⟩
/-- a contract that makes no blocks: where more names are there -/
theorem CallJ.up {f : FuncId} {args : List Value} {sn out : List (Nat × Blk)} {nx n : Nat} {v : Value} (h : CallJ P A f args sn nx v out nx) (hn : nx ≤ n := by decide) (h1 : args.all (inV nx) = true := by kernel_rfl) (h2 : inBlks nx sn = true := by kernel_rfl) : CallJ P A f args sn n v out n := by
  intro D ρ w hm hf hd
  refine (h (fun i => D i ∧ i < nx) ρ w (hm.below h2) (fun u hu => (hf u hu).inter (Fit.of_in (List.all_eq_true.1 h1 u hu))) (fun i hi k => by omega)).mono ?_
  rintro e w' ⟨ρ', rfl, k⟩
  have hx : ∀ i, ext (fun i => D i ∧ i < nx) nx nx i → ext D n n i := fun i hi => by
    rcases hi with hi | hi
    · exact Or.inl hi.1
    · omega
  exact ⟨ρ', rfl, fun i _ => k.same i (by omega), k.fit.mono hx, ⟨k.mem.s, fun e => ⟨hx _ (k.mem.dom e).1, (k.mem.dom e).2⟩, fun e v hv => (k.mem.fit e v hv).mono hx, k.mem.lies, k.mem.inj⟩, k.kept, fun i b h1 h2 => by omega⟩
/-! ### loops whose rounds give some blocks new names -/
/-- a round: of m moving names from nx on, behind it of m' ones -/
def CodeR (P : Program) (A : Amb) (c : Code) (n : Nat) (vals : List (Nat × Value)) (sn : List (Nat × Blk)) (base : List Nat) (nx m : Nat) (x : X) (vals' : List (Nat × Value)) (out' : List (Nat × Blk)) (m' : Nat) : Prop :=
  ∃ (τ : List Nat) (d : Nat) (v1 : List (Nat × Value)) (o1 : List (Nat × Blk)), CodeJ P A c n vals sn (nx + m) x v1 o1 (nx + m + d) ∧ τ.length = m' ∧ τ.Nodup ∧ outOK (sn.map (·.1)) (nx + m) d o1 = true ∧ outOK base nx (m + d) o1 = true ∧
    v1.all (fun e => liveV τ nx e.2) = true ∧ liveB τ nx o1 = true ∧ (v1.map fun e => (e.1, idV (mov τ nx) e.2)) = vals' ∧ o1.map (idB (mov τ nx)) = out'
theorem CodeJ.round {c : Code} {n : Nat} {vals v1 vals' : List (Nat × Value)} {sn o1 out' : List (Nat × Blk)} {base : List Nat} {nx m d : Nat} {x : X} (h : CodeJ P A c n vals sn (nx + m) x v1 o1 (nx + m + d)) (τ : List Nat) (h1 : (v1.map fun e => (e.1, idV (mov τ nx) e.2)) = vals' := by kernel_rfl) (h2 : o1.map (idB (mov τ nx)) = out' := by kernel_rfl)
    (hn : τ.Nodup := by decide) (ho : outOK (sn.map (·.1)) (nx + m) d o1 = true := by kernel_rfl) (hb : outOK base nx (m + d) o1 = true := by kernel_rfl) (h3 : v1.all (fun e => liveV τ nx e.2) = true := by kernel_rfl) (h4 : liveB τ nx o1 = true := by kernel_rfl) :
    CodeR P A c n vals sn base nx m x vals' out' τ.length := ⟨τ, d, v1, o1, h, rfl, hn, ho, hb, h3, h4, h1, h2⟩
end Rx
end Go.Proofs.YtilfcikhipadpaaGreatDoor
end

section
/- How texts are compared in a walk. No program. -/
set_option linter.unusedVariables false
namespace Go.Proofs.YtilfcikhipadpaaGreatDoor
open Go.RowKit

theorem toList_inj {s t : ByteArray} (h : s.toList = t.toList) : s = t := by
  rw [ByteArray.toList_eq, ByteArray.toList_eq] at h
  exact L_inj h
end Go.Proofs.YtilfcikhipadpaaGreatDoor
end

section
/- Blocks that are known whole, carried over new blocks and calls. No program. -/
set_option linter.unusedVariables false
namespace Go.Proofs.YtilfcikhipadpaaGreatDoor
open Go.RowKit

theorem Cells.up {a c d : World} {b : Nat} {cs : Array Value} {T : TypeId} (h : Cells a b cs T) (k : Below a.heap.size a c) (j : Below c.heap.size c d) : Cells d b cs T := Cells.below j (Cells.below k h)
end Go.Proofs.YtilfcikhipadpaaGreatDoor
end

section
/- A range over an iterator all of whose elements are known, whose body always goes on, and which may write its own captured box ahead of the rounds. (Turned from the kit's law for ranges over functions.) -/
set_option linter.unusedVariables false
namespace Go.Proofs.YtilfcikhipadpaaGreatDoor
open Go.RowKit Go.Shelf

/-- the iterator hands over just xs; B: its own captured box, which it may write; a round keeps that box -/
def SeqAll {α : Type} (F : Fence) (n : Nat) (P : Program) (g : Nat) (lb : Array Value) (encs : α → Array Value) (B : Nat) (xs : List α) (w : World) : Prop :=
  ∀ (l : Nat) (J : List α → World → Prop) (W : World), Below w.heap.size w W → AbidesFrom W.heap.size J → (∀ s A v, J s A → J s (A.setCell ⟨B, 0, none⟩ v)) →
    (∀ pre x rest W1, xs = pre ++ x :: rest → J pre W1 → YieldAt F (n - 1) P l (encs x) W1 fun e W' => e = .returned (.bool true) ∧ J (pre ++ [x]) W' ∧ W'.heap[B]? = W1.heap[B]?) →
    J [] W →
    CallsIn F n P g (#[.func (.yield l) #[] #[]] ++ lb) W fun e W' => (∃ v, e = .returned v) ∧ J xs W'

/-- how a round ends: it goes on -/
def allPost {α : Type} (B : Nat) (I : List α → World → Prop) (xs : List α) (W : World) : Exit → Act → World → Prop
  | .normal, _, W' => KeepsOthers W W' ∧ W'.heap[B]? = W.heap[B]? ∧ I xs W'
  | _, _, _ => False

theorem KeepsOthers.of_below {W W' : World} (h : Below W.heap.size W W') : KeepsOthers W W' :=
  ⟨h.size, fun k o hk _ => (h.block k (Array.getElem?_eq_some_iff.1 hk).1).trans hk⟩

theorem setCell_other (W : World) {B k : Nat} (v : Value) (h : k ≠ B) : (W.setCell ⟨B, 0, none⟩ v).heap[k]? = W.heap[k]? := Below.heap_setCell W ⟨B, 0, none⟩ v k h

variable {F : Fence} {n : Nat} {P : Program}

theorem wpIn_rangeFunc_all {α : Type} {g : Operand} {ps : Array Tmp} {assign body : Code} {Q : Exit → Act → World → Prop} {a : Act} {w : World}
    (hro : F.round = none) (h1 : 1 ≤ n) {gf : Nat} {lb : Array Value} (hg : a.eval g = .func (.func gf) #[] lb) (hFg : F.fn gf) (eg : ∀ args w, (callFunc gf args).run P w = .ok (.enter gf args) w)
    {encs : α → Array Value} {B : Nat} {xs : List α} {w0 : World} (hseq : SeqAll F (n - 1) P gf lb encs B xs w0) (hB : B < w.heap.size) (hb0 : Below w0.heap.size w0 w) (hps : ∀ x, (encs x).size = ps.size)
    (I : List α → World → Prop) (hI : OwnFrom w.heap.size I) (hIB : ∀ s A v, I s A → I s (A.setCell ⟨B, 0, none⟩ v)) (h0 : I [] w) (a₁ : α → Act)
    (hassign : ∀ (l : Nat) (x : α) (W : World) (K : Act → World → Prop), K (a₁ x) W →
      assign.wpIn (F.inRound l) (n - 1 - 1) P (Exit.then K (fun _ _ _ => False)) { tmps := (ps.zip (encs x)).foldl (fun t (p, v) => t.setIfInBounds p v) a.tmps, defers := [] } W)
    (hbody : ∀ (l : Nat) (pre : List α) (x : α) (rest : List α) (W : World), xs = pre ++ x :: rest → I pre W → body.wpIn (F.inRound l) (n - 1 - 1) P (allPost B I (pre ++ [x]) W) (a₁ x) W)
    (hdone : ∀ (D : Nat) (W : World), w.heap.size ≤ D → I xs W → W.heap[D]? = some (.deferred (some [])) → Q .normal { a with defers := { target := .collected D, args := #[] } :: a.defers } W) :
    (Code.rangeFunc g ps assign body).wpIn F n P Q a w := by
  refine wpIn_rangeFunc ?_
  intro fn hfn
  rw [hro]
  obtain ⟨rec, hrec⟩ : ∃ rec : LoopState → Option Code → Loop, rec = fun st pe => { state := st, pending := pe, fn, tmps := a.tmps, params := ps, assign, body, defers := w.heap.size } := ⟨_, rfl⟩
  obtain ⟨W1, hW1⟩ : ∃ W1, (w.alloc (.deferred (some []))).alloc (.loop (rec .ready none)) = W1 := ⟨_, rfl⟩
  have hL1 : W1.heap[w.heap.size + 1]? = some (.loop (rec .ready none)) := by
    rw [← hW1]; have := World.alloc_heap_new (w.alloc (.deferred (some []))) (.loop (rec .ready none)); rwa [World.size_alloc] at this
  have hK1 : W1.heap[w.heap.size]? = some (.deferred (some [])) := by
    rw [← hW1]; exact (Below.heap_alloc _ _ _ (by simp)).trans (World.alloc_heap_new w _)
  have hI1 : I [] W1 := by rw [← hW1]; exact hI.alloc _ (hI.alloc _ h0)
  have hb1 : Below w0.heap.size w0 W1 := by
    rw [← hW1]; exact hb0.trans ((((Below.refl _ w).alloc (Nat.le_refl _) _).alloc (by simp) _).mono hb0.size)
  have hz1 : w.heap.size ≤ W1.heap.size := by rw [← hW1]; simp; omega
  refine ⟨w.heap.size + 1, [{ target := .collected w.heap.size, args := #[] }], W1, { target := .fn (.func gf) lb, args := #[.func (.yield (w.heap.size + 1)) #[] #[]] }, W1, gf,
    #[.func (.yield (w.heap.size + 1)) #[] #[]] ++ lb, W1, ?_, ?_, ?_, ?_, fun _ => h1, ?_⟩
  · rw [← hW1, hrec]; exact run_enterLoop_outer _ _ _ _ _
  · simp only [resolve, hg]
    simp [go_sem]
  · intro f' hf'; simp [Target.leads] at hf'; subst hf'; exact hFg
  · simp [invoke, go_sem, eg]
  · have hnw : ∀ {A B' : World} {row : Option Nat}, (∀ r, row = some r → W1.heap.size ≤ r ∧ ∃ o : Obj, A.heap[r]? = some o ∧ o.isWalk = true) → (∀ r, row = some r → w.heap.size ≤ r ∧ ∃ o : Obj, A.heap[r]? = some o ∧ o.isCells = false) :=
      fun hr r e => by obtain ⟨hBr, o, ho, hw⟩ := hr r e; exact ⟨by omega, o, ho, Obj.not_cells_of_walk hw⟩
    refine (hseq (w.heap.size + 1)
      (fun pre W => I pre W ∧ W.heap[w.heap.size + 1]? = some (.loop (rec .ready none)) ∧ W.heap[w.heap.size]? = some (.deferred (some [])))
      W1 hb1
      (fun s A B' row hs hg' hr => ⟨hI s A B' row hs.1 hg' (hnw (B' := B') hr), (grownBy_keeps hg' (fun r e => (hr r e).2) hs.2.1 rfl).trans hs.2.1, (grownBy_keeps hg' (fun r e => (hr r e).2) hs.2.2 rfl).trans hs.2.2⟩)
      (fun s A v hs => ⟨hIB s A v hs.1, (setCell_other A v (by omega)).trans hs.2.1, (setCell_other A v (by omega)).trans hs.2.2⟩)
      ?_ ⟨hI1, hL1, hK1⟩).mono ?_
    · rintro pre x rest W hx ⟨hi, hl, hk⟩
      have hlt : w.heap.size + 1 < W.heap.size := (Array.getElem?_eq_some_iff.1 hl).1
      have hy := run_yield (P := P) (args := encs x) hl (by rw [hrec]; exact hps x)
      rw [hrec] at hy
      refine ⟨fn, _, assign, body, hy, roundIn_of_wpIn hfn (hassign _ x W _ ⟨_, run_beginRound hl (by rw [hrec]), ?_⟩)⟩
      have hl2 : (W.putObj (w.heap.size + 1) (.loop { rec .ready none with state := .busy })).heap[w.heap.size + 1]? = some (.loop { rec .ready none with state := .busy }) := World.putObj_heap_same hlt
      have hk2 : (W.putObj (w.heap.size + 1) (.loop { rec .ready none with state := .busy })).heap[w.heap.size]? = some (.deferred (some [])) := (World.putObj_heap_other (by omega)).trans hk
      refine wpIn_mono (hbody _ pre x rest _ hx (hI.putObj _ hi (by omega) hl rfl)) ?_
      rintro e a3 W3 hp
      cases e with
      | normal =>
        obtain ⟨hk3, hkp3, hi3⟩ := hp
        have hl3 := hk3.same _ _ hl2 rfl
        have hd3 := hk3.same _ _ hk2 rfl
        have hr := run_endRound (P := P) none hl3
        have hlt3 : w.heap.size + 1 < W3.heap.size := (Array.getElem?_eq_some_iff.1 hl3).1
        have e2 : W3.heap[B]? = W.heap[B]? := hkp3.trans (World.putObj_heap_other (by omega))
        rw [hrec] at hr hl3
        refine ⟨_, _, hr, rfl, ⟨hI.putObj _ hi3 (by omega) hl3 rfl, ?_, (World.putObj_heap_other (by omega)).trans hd3⟩, (World.putObj_heap_other (by omega)).trans e2⟩
        rw [hrec]
        exact World.putObj_heap_same hlt3
      | ret => exact hp.elim
      | exit id => exact hp.elim
      | goto t => exact hp.elim
      | panic ch => exact hp.elim
      | outgrown => exact hp.elim
    · rintro e W2 ⟨⟨v, rfl⟩, hi, hl, hk⟩
      exact ⟨none, _, by have := run_endLoop (P := P) hl (by rw [hrec]; simp); rw [hrec] at this; exact this, hdone _ _ (Nat.le_refl _) (hI.putObj _ hi (by omega) hl rfl) ((World.putObj_heap_other (by omega)).trans hk)⟩

/-! ### the marks that such loops leave among the deferred calls -/
def Marked (B : Nat) : List Deferred → World → Prop
  | [], _ => True
  | d :: ds, W => (∃ r, B ≤ r ∧ d = { target := .collected r, args := #[] } ∧ W.heap[r]? = some (.deferred (some [])) ∧ ∀ d' ∈ ds, d'.target ≠ .collected r) ∧ Marked B ds W

theorem Marked.keep {B : Nat} {W W' : World} (hk : ∀ r, B ≤ r → W.heap[r]? = some (.deferred (some [])) → W'.heap[r]? = some (.deferred (some []))) : ∀ {ds : List Deferred}, Marked B ds W → Marked B ds W'
  | [], _ => trivial
  | d :: ds, h => by
    obtain ⟨⟨r, hB, hd, hr, hne⟩, h2⟩ := h
    exact ⟨⟨r, hB, hd, hk r hB hr, hne⟩, Marked.keep hk h2⟩
theorem Marked.below {B : Nat} {W W' : World} {ds : List Deferred} (h : Marked B ds W) (hb : Below W.heap.size W W') : Marked B ds W' :=
  h.keep fun r _ hr => (hb.block r (Array.getElem?_eq_some_iff.1 hr).1).trans hr
theorem Marked.setCell {B b : Nat} {W : World} {ds : List Deferred} (v : Value) (h : Marked B ds W) (hb : ∃ t u, Boxed W b t u) : Marked B ds (W.setCell ⟨b, 0, none⟩ v) :=
  h.keep fun r _ hr => (setCell_other W v (fun e => by
    obtain ⟨t, u, hx⟩ := hb
    subst e
    rw [show W.heap[r]? = _ from hx] at hr
    cases hr)).trans hr
theorem Marked.fresh {B : Nat} {W : World} : ∀ {ds : List Deferred}, Marked B ds W → ∀ d' ∈ ds, ∃ r, d'.target = .collected r ∧ r < W.heap.size
  | d :: ds, h, d', hm => by
    obtain ⟨⟨r, hB, hd, hr, hne⟩, h2⟩ := h
    rcases List.mem_cons.1 hm with rfl | hm
    · exact ⟨r, by rw [hd], (Array.getElem?_eq_some_iff.1 hr).1⟩
    · exact Marked.fresh h2 d' hm
theorem Marked.other {B r : Nat} {W : World} : ∀ {ds : List Deferred}, (∀ d' ∈ ds, d'.target ≠ .collected r) → Marked B ds W → Marked B ds (W.putObj r (.deferred none))
  | [], _, _ => trivial
  | d :: ds, hn, h => by
    obtain ⟨⟨r', hB, hd, hr, hne⟩, h2⟩ := h
    refine ⟨⟨r', hB, hd, ?_, hne⟩, Marked.other (fun d' hd' => hn d' (by simp [hd'])) h2⟩
    have hrr : r' ≠ r := fun e => hn d (by simp) (by rw [hd, e])
    exact (World.putObj_heap_other hrr).trans hr

theorem leaves_marks {fn : Func} {tmps : Array Value} {R : Ending → World → Prop} {B : Nat} : ∀ {ds : List Deferred} {W : World}, Marked B ds W →
    (∀ W', Below B W W' → LeavesInM F n P fn tmps R [] .returning W') → LeavesInM F n P fn tmps R ds .returning W
  | [], W, _, h => h W (Below.refl _ _)
  | d :: ds, W, hm, h => by
    obtain ⟨⟨r, hB, hd, hr, hne⟩, h2⟩ := hm
    refine ⟨by simp, .inl ⟨r, _, by rw [hd], run_takeDeferred hr, ?_⟩⟩
    have hb : Below B W (W.putObj r (.deferred none)) := (Below.refl B W).grown (grownBy_putObj' W r _) (by have := (Array.getElem?_eq_some_iff.1 hr).1; omega) (fun k e => by cases e; exact hB)
    exact leaves_marks (h2.other hne) fun W' hW' => h W' (hb.trans hW')

/-! ### all but some blocks lies as it lay -/
structure Only (X : Nat → Prop) (W0 W : World) : Prop where
  os : W.os = W0.os
  tape : W.tape = W0.tape
  output : W.output = W0.output
  size : W0.heap.size ≤ W.heap.size
  block : ∀ k, k < W0.heap.size → ¬ X k → W.heap[k]? = W0.heap[k]?

theorem Only.refl (X : Nat → Prop) (W : World) : Only X W W := ⟨rfl, rfl, rfl, Nat.le_refl _, fun _ _ _ => rfl⟩
theorem Only.trans {X : Nat → Prop} {A B C : World} (h : Only X A B) (k : Only X B C) : Only X A C :=
  ⟨k.os.trans h.os, k.tape.trans h.tape, k.output.trans h.output, Nat.le_trans h.size k.size, fun i hi hx => (k.block i (Nat.lt_of_lt_of_le hi h.size) hx).trans (h.block i hi hx)⟩
theorem Only.of_below {X : Nat → Prop} {B : Nat} {A C : World} (h : Below B A C) (hB : A.heap.size ≤ B) : Only X A C :=
  ⟨h.os, h.tape, h.output, h.size, fun i hi _ => h.block i (by omega)⟩
theorem Only.then {X : Nat → Prop} {A B C : World} (h : Only X A B) (k : Below B.heap.size B C) : Only X A C := h.trans (Only.of_below k (Nat.le_refl _))
theorem Only.set_ {X : Nat → Prop} {A B : World} (h : Only X A B) {b : Nat} (v : Value) (hb : X b ∨ A.heap.size ≤ b) : Only X A (B.setCell ⟨b, 0, none⟩ v) :=
  ⟨h.os, h.tape, h.output, by simpa [World.setCell] using h.size, fun i hi hx => (setCell_other B v (fun e => by subst e; rcases hb with hb | hb; exact hx hb; omega)).trans (h.block i hi hx)⟩
theorem Only.grown {X : Nat → Prop} {A B C : World} {row : Option Nat} (h : Only X A B) (hg : B.grownBy C row) (hr : ∀ r, row = some r → X r ∨ A.heap.size ≤ r) : Only X A C :=
  ⟨hg.os.trans h.os, hg.tape.trans h.tape, hg.output.trans h.output, Nat.le_trans h.size hg.size, fun i hi hx => (hg.block i (Nat.lt_of_lt_of_le hi h.size) (fun e => by rcases hr i e.symm with hb | hb; exact hx hb; omega)).trans (h.block i hi hx)⟩
theorem Only.below {X : Nat → Prop} {A C : World} {B : Nat} (h : Only X A C) (hX : ∀ k, X k → B ≤ k) (hB : B ≤ A.heap.size) : Below B A C :=
  ⟨h.os, h.tape, h.output, h.size, fun i hi => h.block i (by omega) (fun hx => by have := hX i hx; omega)⟩
theorem Only.boxed {X : Nat → Prop} {A C : World} (h : Only X A C) {b t : Nat} {v : Value} (hb : Boxed A b t v) (hx : ¬ X b) : Boxed C b t v := (h.block b hb.lt hx).trans hb
theorem Marked.only {B : Nat} {X : Nat → Prop} {A C : World} {ds : List Deferred} (h : Marked B ds A) (k : Only X A C) (hX : ∀ r, X r → A.heap[r]? ≠ some (.deferred (some []))) : Marked B ds C :=
  h.keep fun r _ hr => (k.block r (Array.getElem?_eq_some_iff.1 hr).1 (fun hx => hX r hx hr)).trans hr
theorem boxed_not_mark {A : World} {b t : Nat} {v : Value} (hb : Boxed A b t v) : A.heap[b]? ≠ some (.deferred (some [])) := by
  rw [show A.heap[b]? = _ from hb]; intro h; cases h
end Go.Proofs.YtilfcikhipadpaaGreatDoor
end
