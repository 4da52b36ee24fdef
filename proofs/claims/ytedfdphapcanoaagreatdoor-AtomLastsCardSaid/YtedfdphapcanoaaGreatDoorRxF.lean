/- A run reckoned by the kernel: rows of unknown length: an element's place, its load, a store to it. No program. -/
import Derived.Test.YtedfdphapcanoaaGreatDoorRxE
set_option linter.unusedVariables false
set_option linter.unusedSimpArgs false
namespace Go.Proofs.YtedfdphapcanoaaGreatDoor
open Go.RowKit Go.Lib
namespace Rx
variable {P : Program} {A : Amb}

/-- rows of things, each of k cells -/
theorem flat_len {α : Type} {f : α → List Value} {k : Nat} (hf : ∀ x, (f x).length = k) : ∀ l : List α, (l.flatMap f).length = l.length * k
  | [] => by simp
  | x :: l => by
    rw [List.flatMap_cons, List.length_append, hf, flat_len hf l, List.length_cons, Nat.succ_mul]
    omega
theorem cut_flat {α : Type} {f : α → List Value} {k : Nat} (hf : ∀ x, (f x).length = k) : ∀ (l : List α) (i : Nat) (h : i < l.length), cut (l.flatMap f) (i * k) k = f l[i]
  | [], i, h => by simp at h
  | x :: l, 0, h => by
    simp only [cut, List.flatMap_cons, Nat.zero_mul, List.drop_zero, List.getElem_cons_zero]
    rw [List.take_append_of_le_length (by rw [hf]; exact Nat.le_refl _), List.take_of_length_le (by rw [hf]; exact Nat.le_refl _)]
  | x :: l, i + 1, h => by
    have := cut_flat hf l i (by simpa using h)
    simp only [cut, List.flatMap_cons, List.getElem_cons_succ] at this ⊢
    rw [← this, Nat.succ_mul, Nat.add_comm (i * k) k, ← List.drop_drop]
    congr 2
    rw [List.drop_append_of_le_length (by rw [hf]; exact Nat.le_refl _), List.drop_of_length_le (by rw [hf]; exact Nat.le_refl _)]
    rfl
theorem fit_le {a b c : Nat} (h : a < b) : a * c + c ≤ b * c := by
  have := Nat.mul_le_mul_right c (show a + 1 ≤ b by omega)
  rw [Nat.succ_mul] at this
  exact this

/-- an element's place -/
def idx (n nx : Nat) {ty T : TypeId} {ik : IntKind} {id off q len c j s : Nat} {b : Blk} (hj : j < len) (he : (elemA P T).map (fun x => x.2.size) = some s := by kernel_rfl) (hq : Nat.blt q 2 = true := by kernel_rfl)
    (hv : [Value.slice (some ⟨id, off, some q⟩) len c, .int ik (j : Int)].all (inP (has1 [id])) = true := by kernel_rfl) (hall : allSome (evOf [Value.slice (some ⟨id, off, some q⟩) len c, .int ik (j : Int)]) (mkO (.indexAddr T (.tmp 1) (.tmp 2)) ty) = true := by kernel_rfl) : Ev P A :=
  ov n nx (.indexAddr T (.tmp 1) (.tmp 2)) ty [.slice (some ⟨id, off, some q⟩) len c, .int ik (j : Int)] [(id, b)] (.pointer (some ⟨id, off + j * s, some 0⟩)) [(id, b)] 0 (log := [])
    (by
      have hb : (Nat.blt q 2 && Nat.blt j len) = true := by rw [hq, Bool.true_and]; simpa [Nat.blt_eq] using hj
      show (match indexA P T (.slice (some ⟨id, off, some q⟩) len c) (.int ik (j : Int)) with | some v => some (v, [], nx) | none => _) = _
      have : indexA P T (.slice (some ⟨id, off, some q⟩) len c) (.int ik (j : Int)) = some (.pointer (some ⟨id, off + j * s, some 0⟩)) := by
        show (match elemA P T with | some (_, i) => cond (Nat.blt q 2 && Nat.blt j len) (some (Value.pointer (some ⟨id, off + j * i.size, some 0⟩))) none | none => none) = _
        cases hx : elemA P T with
        | none => rw [hx] at he; cases he
        | some x =>
          rw [hx] at he
          simp only [Option.map_some, Option.some.injEq] at he
          simp only [hb, cond, he]
      rw [this]
      rfl) (fun i b h => h) hv hall
/-- a struct's load -/
def ld (n nx : Nat) {ty T : TypeId} {id off q k : Nat} {b : Blk} {vs : List Value} (hb : off + k ≤ b.1.length) (hc : cut b.1 off k = vs) (ha : pureRun P (isAgg T) = some true := by kernel_rfl) (hs : pureRun P (sizeOf T) = some k := by kernel_rfl)
    (hv : [Value.pointer (some ⟨id, off, some q⟩)].all (inP (has1 [id])) = true := by kernel_rfl) (hall : allSome (evOf [Value.pointer (some ⟨id, off, some q⟩)]) (mkO (.load T (.tmp 1)) ty) = true := by kernel_rfl) : Ev P A :=
  ov n nx (.load T (.tmp 1)) ty [.pointer (some ⟨id, off, some q⟩)] [(id, b)] (.agg vs.toArray) [(id, b)] 0 (log := [])
    (by
      show (match loadA P (memL [(id, b)]) T (.pointer (some ⟨id, off, some q⟩)) with | some v => some (v, [], nx) | none => none) = _
      have : loadA P (memL [(id, b)]) T (.pointer (some ⟨id, off, some q⟩)) = some (.agg vs.toArray) := by
        have hm : memL [(id, b)] id = some b := by simp [memL, Mem.put]
        have hl : Nat.ble (off + k) b.1.length = true := Nat.ble_eq_true_of_le hb
        obtain ⟨cs, U, r⟩ := b
        simp only [loadA, hm, ha, hs, hl, cond]
        rw [hc]
      rw [this]
      rfl) (fun i b h => h) hv hall
/-! ### names in rows of plain cells -/
theorem all_flat {α : Type} {f : α → List Value} {p : Value → Bool} (h : ∀ x, (f x).all p = true) : ∀ l : List α, (l.flatMap f).all p = true
  | [] => rfl
  | x :: l => by rw [List.flatMap_cons, List.all_append, h, all_flat h l]; rfl
theorem idS_real {σ : Nat → Nat} {v : Value} (h : realS v = true) : idS σ v = v := by
  cases v <;> try rfl
  case pointer a =>
    cases a with
    | none => rfl
    | some a =>
      obtain ⟨b, o, s⟩ := a
      cases s
      · rfl
      · simp [realS] at h
  case slice a n c =>
    cases a with
    | none => rfl
    | some a =>
      obtain ⟨b, o, s⟩ := a
      cases s
      · rfl
      · simp [realS] at h
theorem id0_real {σ : Nat → Nat} {v : Value} (h : real0 v = true) : id0 σ v = v := by
  cases v
  case func f x y =>
    simp only [real0, Bool.and_eq_true] at h
    simp only [id0]
    rw [map_id_of (fun v hv => idS_real hv) h.1, map_id_of (fun v hv => idS_real hv) h.2]
  case pointer a => exact idS_real (v := .pointer a) h
  case slice a n c => exact idS_real (v := .slice a n c) h
  all_goals rfl
theorem flat_id {α : Type} {f : α → List Value} (hf : ∀ x, (f x).all real0 = true) (σ : Nat → Nat) (l : List α) : (l.flatMap f).map (id0 σ) = l.flatMap f := by
  exact (List.map_congr_left fun v hv => (id0_real (σ := σ) (List.all_eq_true.1 (all_flat hf l) v hv) : id0 σ v = id v)).trans (List.map_id _)
theorem CallJ.eq {f : FuncId} {args args' : List Value} {sn sn' out out' : List (Nat × Blk)} {nx nx' : Nat} {v v' : Value} (h : CallJ P A f args sn nx v out nx') (h2 : sn = sn') (h4 : out = out') (h1 : args = args' := by kernel_rfl) (h3 : v = v' := by kernel_rfl) : CallJ P A f args' sn' nx v' out' nx' := by
  subst h1 h2 h3 h4
  exact h
end Rx
end Go.Proofs.YtedfdphapcanoaaGreatDoor
