/- A run reckoned by the kernel: what its words mean, and what single operations do. No program. -/
import Derived.Test.YtedfdphapcanoaaGreatDoorRx
import Derived.Deep.MidRow
set_option linter.unusedVariables false
set_option linter.unusedSimpArgs false
namespace Go.Proofs.YtedfdphapcanoaaGreatDoor
open Go.RowKit Go.Lib
namespace Rx
variable {P : Program}

/-! ### values -/
theorem renS_real {ρ : Nm} {v : Value} (h : realS v = true) : renS ρ v = v := by
  cases v <;> try rfl
  case pointer a => cases a <;> simp_all [renS, realS, renA]
  case slice a n c => cases a <;> simp_all [renS, realS, renB, capA]
theorem map_id_of {f : Value → Value} {p : Value → Bool} (hf : ∀ v, p v = true → f v = v) {xs : Array Value} (h : xs.toList.all p = true) : (xs.toList.map f).toArray = xs := by
  have : xs.toList.map f = xs.toList := by
    rw [List.map_congr_left (g := id) (fun v hv => hf v (List.all_eq_true.1 h v hv)), List.map_id]
  rw [this]
theorem ren0_real {ρ : Nm} {v : Value} (h : real0 v = true) : ren0 ρ v = v := by
  unfold real0 at h
  split at h
  · simp only [Bool.and_eq_true] at h
    simp only [ren0]
    rw [map_id_of (fun v hv => renS_real hv) h.1, map_id_of (fun v hv => renS_real hv) h.2]
  · unfold ren0
    split
    · simp_all
    · exact renS_real h
theorem ren1_real {ρ : Nm} {v : Value} (h : real1 v = true) : ren1 ρ v = v := by
  unfold real1 at h
  split at h
  · simp only [ren1]
    rw [map_id_of (fun v hv => ren0_real hv) h]
  · unfold ren1
    split
    · simp_all
    · exact ren0_real h
theorem ren_real {ρ : Nm} {v : Value} (h : real v = true) : ren ρ v = v := by
  unfold real at h
  split at h
  · simp only [ren]
    rw [map_id_of (fun v hv => ren1_real hv) h]
  · unfold ren
    split
    · simp_all
    · exact ren1_real h
theorem ren_scal {ρ : Nm} {v : Value} (h : scal v = true) : ren ρ v = ren0 ρ v := by
  cases v <;> simp_all [scal, ren, ren1]
theorem ren_notTuple {ρ : Nm} {v : Value} (h : notTuple v = true) : ren ρ v = ren1 ρ v := by
  cases v <;> simp_all [notTuple, ren]
theorem cells_ren {ρ : Nm} {v : Value} (h : notTuple v = true) : (ren ρ v).cells = (v.cells.toList.map (ren0 ρ)).toArray := by
  cases v <;> simp_all [notTuple, ren, ren1, Value.cells, ren0, renS] <;> (try rfl)
  case pointer a => cases a <;> rfl
  case slice a n c => cases a <;> rfl
theorem oneCell_ren0 {ρ : Nm} {v : Value} (h : scal v = true) : (ren0 ρ v).oneCell' = true := by
  cases v <;> simp_all [scal, ren0, renS, Value.oneCell']
  case pointer a => cases a <;> rfl
  case slice a n c => cases a <;> rfl

/-- what v becomes hangs on the names of D alone -/
def Fit (D : Nat → Prop) (v : Value) : Prop := ∀ ρ ρ' : Nm, (∀ i, D i → ρ i = ρ' i) → ren ρ v = ren ρ' v
def Fit0 (D : Nat → Prop) (v : Value) : Prop := ∀ ρ ρ' : Nm, (∀ i, D i → ρ i = ρ' i) → ren0 ρ v = ren0 ρ' v
theorem Fit.mono {D E : Nat → Prop} {v : Value} (h : Fit D v) (he : ∀ i, D i → E i) : Fit E v := fun ρ ρ' k => h ρ ρ' fun i hi => k i (he i hi)
theorem Fit0.mono {D E : Nat → Prop} {v : Value} (h : Fit0 D v) (he : ∀ i, D i → E i) : Fit0 E v := fun ρ ρ' k => h ρ ρ' fun i hi => k i (he i hi)
theorem Fit.real {D : Nat → Prop} {v : Value} (h : real v = true) : Fit D v := fun ρ ρ' _ => by rw [ren_real h, ren_real h]
theorem Fit0.scal {D : Nat → Prop} {v : Value} (h : Fit0 D v) (hs : scal v = true) : Fit D v := fun ρ ρ' k => by rw [ren_scal hs, ren_scal hs, h ρ ρ' k]
theorem Fit0.agg {D : Nat → Prop} {cs : List Value} (h : ∀ v ∈ cs, Fit0 D v) : Fit D (.agg cs.toArray) := fun ρ ρ' k => by
  simp only [ren, ren1]
  rw [List.map_congr_left (fun v hv => h v hv ρ ρ' k)]
theorem Fit.cells {D : Nat → Prop} {v : Value} (h : Fit D v) (hn : notTuple v = true) : ∀ x ∈ v.cells.toList, Fit0 D x := by
  intro x hx ρ ρ' k
  have h1 : (ren ρ v).cells = (ren ρ' v).cells := by rw [h ρ ρ' k]
  rw [cells_ren hn, cells_ren hn] at h1
  have h2 : v.cells.toList.map (ren0 ρ) = v.cells.toList.map (ren0 ρ') := by simpa using h1
  exact List.map_inj_left.1 h2 x hx
theorem Fit.part {D : Nat → Prop} {vs : Array Value} (h : Fit D (.tuple vs)) {i : Nat} {v : Value} (hv : vs[i]? = some v) (hn : notTuple v = true) : Fit D v := by
  intro ρ ρ' k
  have h1 := h ρ ρ' k
  simp only [ren] at h1
  have h2 : vs.toList.map (ren1 ρ) = vs.toList.map (ren1 ρ') := by simpa using h1
  rw [ren_notTuple hn, ren_notTuple hn]
  exact List.map_inj_left.1 h2 v (by rw [← Array.getElem?_toList] at hv; exact List.mem_of_getElem? hv)
theorem Fit.tuple {D : Nat → Prop} {vs : List Value} (h : ∀ v ∈ vs, Fit D v ∧ notTuple v = true) : Fit D (.tuple vs.toArray) := fun ρ ρ' k => by
  simp only [ren]
  have : vs.map (ren1 ρ) = vs.map (ren1 ρ') := List.map_congr_left (fun v hv => by
    have := (h v hv).1 ρ ρ' k
    rwa [ren_notTuple (h v hv).2, ren_notTuple (h v hv).2] at this)
  rw [this]
theorem Fit.one {D : Nat → Prop} {vs : List Value} (h : ∀ v ∈ vs, Fit D v ∧ notTuple v = true) : Fit D (one vs) := by
  match vs, h with
  | [], h => exact Fit.tuple h
  | [v], h => exact (h v (by simp)).1
  | a :: b :: c, h => exact Fit.tuple h

/-! ### operations that ask for no memory -/
theorem pureRun_run {α : Type} (w : World) : ∀ (s : Sem α) (a : α), pureRun P s = some a → s.run P w = .ok a w := by
  intro s
  induction s with
  | pure a => intro b h; simp only [pureRun, Option.some.injEq] at h; subst h; rfl
  | program k ih => intro b h; exact ih P b h
  | _ => intro b h; cases h

end Rx
end Go.Proofs.YtedfdphapcanoaaGreatDoor
