/- Several texts of this claim, one behind the other. -/
import Derived.Test.YtedfdphapcanoaaGreatDoorM1
import Derived.Deep.MidRow

section
/- A run reckoned by the kernel: what its words mean, and what single operations do. No program. -/
set_option linter.unusedVariables false
set_option linter.unusedSimpArgs false
namespace Go.Proofs.YtedfdphapcanoaaGreatDoor
open Go.RowKit Go.Lib
namespace Rx
variable {P : Program}

/-! ### values -/
theorem renS_real {ρ : Nm} {v : Value} (h : realS v = true) : renS ρ v = v := by
  cases v <;> try rfl
  case pointer a => cases a <;> simp_all [renS, realS, renA]
  case slice a n c => cases a <;> simp_all [renS, realS, renB, capA]
theorem map_id_of {f : Value → Value} {p : Value → Bool} (hf : ∀ v, p v = true → f v = v) {xs : Array Value} (h : xs.toList.all p = true) : (xs.toList.map f).toArray = xs := by
  have : xs.toList.map f = xs.toList := by
    rw [List.map_congr_left (g := id) (fun v hv => hf v (List.all_eq_true.1 h v hv)), List.map_id]
  rw [this]
theorem ren0_real {ρ : Nm} {v : Value} (h : real0 v = true) : ren0 ρ v = v := by
  unfold real0 at h
  split at h
  · simp only [Bool.and_eq_true] at h
    simp only [ren0]
    rw [map_id_of (fun v hv => renS_real hv) h.1, map_id_of (fun v hv => renS_real hv) h.2]
  · unfold ren0
    split
    · simp_all
    · exact renS_real h
theorem ren1_real {ρ : Nm} {v : Value} (h : real1 v = true) : ren1 ρ v = v := by
  unfold real1 at h
  split at h
  · simp only [ren1]
    rw [map_id_of (fun v hv => ren0_real hv) h]
  · unfold ren1
    split
    · simp_all
    · exact ren0_real h
theorem ren_real {ρ : Nm} {v : Value} (h : real v = true) : ren ρ v = v := by
  unfold real at h
  split at h
  · simp only [ren]
    rw [map_id_of (fun v hv => ren1_real hv) h]
  · unfold ren
    split
    · simp_all
    · exact ren1_real h
theorem ren_scal {ρ : Nm} {v : Value} (h : scal v = true) : ren ρ v = ren0 ρ v := by
  cases v <;> simp_all [scal, ren, ren1]
theorem ren_notTuple {ρ : Nm} {v : Value} (h : notTuple v = true) : ren ρ v = ren1 ρ v := by
  cases v <;> simp_all [notTuple, ren]
theorem cells_ren {ρ : Nm} {v : Value} (h : notTuple v = true) : (ren ρ v).cells = (v.cells.toList.map (ren0 ρ)).toArray := by
  cases v <;> simp_all [notTuple, ren, ren1, Value.cells, ren0, renS] <;> (try rfl)
  case pointer a => cases a <;> rfl
  case slice a n c => cases a <;> rfl
theorem oneCell_ren0 {ρ : Nm} {v : Value} (h : scal v = true) : (ren0 ρ v).oneCell' = true := by
  cases v <;> simp_all [scal, ren0, renS, Value.oneCell']
  case pointer a => cases a <;> rfl
  case slice a n c => cases a <;> rfl

/-- what v becomes hangs on the names of D alone -/
def Fit (D : Nat → Prop) (v : Value) : Prop := ∀ ρ ρ' : Nm, (∀ i, D i → ρ i = ρ' i) → ren ρ v = ren ρ' v
def Fit0 (D : Nat → Prop) (v : Value) : Prop := ∀ ρ ρ' : Nm, (∀ i, D i → ρ i = ρ' i) → ren0 ρ v = ren0 ρ' v
theorem Fit.mono {D E : Nat → Prop} {v : Value} (h : Fit D v) (he : ∀ i, D i → E i) : Fit E v := fun ρ ρ' k => h ρ ρ' fun i hi => k i (he i hi)
theorem Fit0.mono {D E : Nat → Prop} {v : Value} (h : Fit0 D v) (he : ∀ i, D i → E i) : Fit0 E v := fun ρ ρ' k => h ρ ρ' fun i hi => k i (he i hi)
theorem Fit.real {D : Nat → Prop} {v : Value} (h : real v = true) : Fit D v := fun ρ ρ' _ => by rw [ren_real h, ren_real h]
theorem Fit0.scal {D : Nat → Prop} {v : Value} (h : Fit0 D v) (hs : scal v = true) : Fit D v := fun ρ ρ' k => by rw [ren_scal hs, ren_scal hs, h ρ ρ' k]
theorem Fit0.agg {D : Nat → Prop} {cs : List Value} (h : ∀ v ∈ cs, Fit0 D v) : Fit D (.agg cs.toArray) := fun ρ ρ' k => by
  simp only [ren, ren1]
  rw [List.map_congr_left (fun v hv => h v hv ρ ρ' k)]
theorem Fit.cells {D : Nat → Prop} {v : Value} (h : Fit D v) (hn : notTuple v = true) : ∀ x ∈ v.cells.toList, Fit0 D x := by
  intro x hx ρ ρ' k
  have h1 : (ren ρ v).cells = (ren ρ' v).cells := by rw [h ρ ρ' k]
  rw [cells_ren hn, cells_ren hn] at h1
  have h2 : v.cells.toList.map (ren0 ρ) = v.cells.toList.map (ren0 ρ') := by simpa using h1
  exact List.map_inj_left.1 h2 x hx
theorem Fit.part {D : Nat → Prop} {vs : Array Value} (h : Fit D (.tuple vs)) {i : Nat} {v : Value} (hv : vs[i]? = some v) (hn : notTuple v = true) : Fit D v := by
  intro ρ ρ' k
  have h1 := h ρ ρ' k
  simp only [ren] at h1
  have h2 : vs.toList.map (ren1 ρ) = vs.toList.map (ren1 ρ') := by simpa using h1
  rw [ren_notTuple hn, ren_notTuple hn]
  exact List.map_inj_left.1 h2 v (by rw [← Array.getElem?_toList] at hv; exact List.mem_of_getElem? hv)
theorem Fit.tuple {D : Nat → Prop} {vs : List Value} (h : ∀ v ∈ vs, Fit D v ∧ notTuple v = true) : Fit D (.tuple vs.toArray) := fun ρ ρ' k => by
  simp only [ren]
  have : vs.map (ren1 ρ) = vs.map (ren1 ρ') := List.map_congr_left (fun v hv => by
    have := (h v hv).1 ρ ρ' k
    rwa [ren_notTuple (h v hv).2, ren_notTuple (h v hv).2] at this)
  rw [this]
theorem Fit.one {D : Nat → Prop} {vs : List Value} (h : ∀ v ∈ vs, Fit D v ∧ notTuple v = true) : Fit D (one vs) := by
  match vs, h with
  | [], h => exact Fit.tuple h
  | [v], h => exact (h v (by simp)).1
  | a :: b :: c, h => exact Fit.tuple h

/-! ### operations that ask for no memory -/
theorem pureRun_run {α : Type} (w : World) : ∀ (s : Sem α) (a : α), pureRun P s = some a → s.run P w = .ok a w := by
  intro s
  induction s with
  | pure a => intro b h; simp only [pureRun, Option.some.injEq] at h; subst h; rfl
  | program k ih => intro b h; exact ih P b h
  | _ => intro b h; cases h

end Rx
end Go.Proofs.YtedfdphapcanoaaGreatDoor
end

section
/- A run reckoned by the kernel: its memory, and what is asked. No program. -/
set_option linter.unusedVariables false
set_option linter.unusedSimpArgs false
namespace Go.Proofs.YtedfdphapcanoaaGreatDoor
open Go.RowKit Go.Lib
namespace Rx
variable {P : Program}

/-! ### what lies where -/
/-- what a step may do: own blocks and new ones alone -/
structure Kept (own : Nat → Prop) (w w' : World) : Prop where
  os : w'.os = w.os
  tape : w'.tape = w.tape
  output : w'.output = w.output
  size : w.heap.size ≤ w'.heap.size
  block : ∀ b, b < w.heap.size → ¬ own b → w'.heap[b]? = w.heap[b]?
theorem Kept.refl (own : Nat → Prop) (w : World) : Kept own w w := ⟨rfl, rfl, rfl, Nat.le_refl _, fun _ _ _ => rfl⟩
theorem Kept.trans {o1 o2 own : Nat → Prop} {a b c : World} (h : Kept o1 a b) (k : Kept o2 b c) (h1 : ∀ x, x < a.heap.size → o1 x → own x) (h2 : ∀ x, x < a.heap.size → o2 x → own x) : Kept own a c :=
  ⟨k.os.trans h.os, k.tape.trans h.tape, k.output.trans h.output, Nat.le_trans h.size k.size, fun x hx hn =>
    (k.block x (Nat.lt_of_lt_of_le hx h.size) fun e => hn (h2 x hx e)).trans (h.block x hx fun e => hn (h1 x hx e))⟩
theorem Kept.mono {o1 own : Nat → Prop} {a b : World} (h : Kept o1 a b) (h1 : ∀ x, x < a.heap.size → o1 x → own x) : Kept own a b :=
  ⟨h.os, h.tape, h.output, h.size, fun x hx hn => h.block x hx fun e => hn (h1 x hx e)⟩
theorem Kept.of_below {own : Nat → Prop} {w w' : World} (h : Below w.heap.size w w') : Kept own w w' := ⟨h.os, h.tape, h.output, h.size, fun b hb _ => h.block b hb⟩
theorem Kept.to_below {w w' : World} (h : Kept (fun _ => False) w w') : Below w.heap.size w w' := ⟨h.os, h.tape, h.output, h.size, fun b hb => h.block b hb id⟩
theorem Kept.drew (own : Nat → Prop) (w : World) : Kept own w { w with drawn := w.drawn + 1 } := ⟨rfl, rfl, rfl, Nat.le_refl _, fun _ _ _ => rfl⟩

/-- the world about a run: S holds all along; blocks of Own may be written -/
structure Amb where
  S : World → Prop
  Own : Nat → Prop
  keep : ∀ {w w' : World}, S w → Kept Own w w' → S w'
  fresh : ∀ {w : World} {b : Nat}, S w → w.heap.size ≤ b → Own b
/-- nothing of w0 is written -/
def Amb.of (w0 : World) : Amb where
  S w := Below w0.heap.size w0 w
  Own b := w0.heap.size ≤ b
  keep h k := ⟨k.os.trans h.os, k.tape.trans h.tape, k.output.trans h.output, Nat.le_trans h.size k.size, fun b hb => (k.block b (Nat.lt_of_lt_of_le hb h.size) (by omega)).trans (h.block b hb)⟩
  fresh h k := Nat.le_trans h.size k

/-- block b has these cells (a row: and room for κ elements of s cells) -/
def Lies (ρ : Nm) (w : World) (b : Nat) (cs : List Value) (T : TypeId) (s κ : Nat) (row : Bool) : Prop :=
  ∃ rest : Array Value, ∃ fr : Nat × Nat, w.heap[b]? = some (.cells ((cs.map (ren0 ρ)).toArray ++ rest) T fr) ∧ (∀ j, j < cs.length + rest.size → ¬ (fr.1 ≤ j ∧ j < fr.2)) ∧ (row = true → cs.length ≤ κ * s ∧ κ * s ≤ cs.length + rest.size)
theorem Lies.cell {ρ : Nm} {w : World} {b : Nat} {cs : List Value} {T : TypeId} {s κ : Nat} {row : Bool} (h : Lies ρ w b cs T s κ row) {j : Nat} {v : Value} (hv : cs[j]? = some v) : w.cell? ⟨b, j, none⟩ = some (ren0 ρ v) := by
  obtain ⟨rest, fr, hb, hf⟩ := h
  have hj : j < cs.length := (List.getElem?_eq_some_iff.1 hv).1
  simp only [World.cell?, hb]
  simp [Array.getElem?_append, hj, (List.getElem?_eq_some_iff.1 hv).2]
theorem Lies.frozen {ρ : Nm} {w : World} {b : Nat} {cs : List Value} {T : TypeId} {s κ : Nat} {row : Bool} (h : Lies ρ w b cs T s κ row) {j : Nat} (hj : j < cs.length) : w.frozen? ⟨b, j, none⟩ = false := by
  obtain ⟨rest, fr, hb, hf⟩ := h
  have := hf.1 j (by omega)
  simp only [World.frozen?, hb]
  simpa using this
theorem Lies.lt {ρ : Nm} {w : World} {b : Nat} {cs : List Value} {T : TypeId} {s κ : Nat} {row : Bool} (h : Lies ρ w b cs T s κ row) : b < w.heap.size := by
  obtain ⟨rest, fr, hb, hf⟩ := h
  exact (Array.getElem?_eq_some_iff.1 hb).1
theorem Lies.same {ρ : Nm} {w w' : World} {b : Nat} {cs : List Value} {T : TypeId} {s κ : Nat} {row : Bool} (h : Lies ρ w b cs T s κ row) (k : w'.heap[b]? = w.heap[b]?) : Lies ρ w' b cs T s κ row := by
  obtain ⟨rest, fr, hb, hf⟩ := h
  exact ⟨rest, fr, k.trans hb, hf⟩
theorem Lies.ren {D : Nat → Prop} {ρ ρ' : Nm} {w : World} {b : Nat} {cs : List Value} {T : TypeId} {s κ : Nat} {row : Bool} (h : Lies ρ w b cs T s κ row) (hf : ∀ v ∈ cs, Fit0 D v) (hd : ∀ i, D i → ρ i = ρ' i) : Lies ρ' w b cs T s κ row := by
  obtain ⟨rest, fr, hb, hz⟩ := h
  exact ⟨rest, fr, by rw [← List.map_congr_left (fun v hv => hf v hv ρ ρ' hd)]; exact hb, hz⟩
theorem Lies.new (ρ : Nm) (w : World) (cs : List Value) (T : TypeId) (s κ : Nat) (row : Bool) (rest : Array Value) (hr : row = true → cs.length ≤ κ * s ∧ κ * s ≤ cs.length + rest.size) : Lies ρ (w.alloc (.cells ((cs.map (ren0 ρ)).toArray ++ rest) T)) w.heap.size cs T s κ row :=
  ⟨rest, (0, 0), by rw [heap_alloc_new], fun j _ => by simp, hr⟩
theorem Lies.set {ρ : Nm} {w : World} {b : Nat} {cs : List Value} {T : TypeId} {s κ : Nat} {row : Bool} (h : Lies ρ w b cs T s κ row) {j : Nat} (hj : j < cs.length) (v : Value) : Lies ρ (w.setCell ⟨b, j, none⟩ (ren0 ρ v)) b (cs.set j v) T s κ row := by
  obtain ⟨rest, fr, hb, hf⟩ := h
  refine ⟨rest, fr, ?_, fun k hk => hf.1 k (by simpa using hk), fun h => by simpa using hf.2 h⟩
  simp only [World.setCell, Array.getElem?_modify, hb, if_true, Option.map_some]
  simp
  rw [Array.setIfInBounds_append_left (by simpa using hj)]
  simp
theorem splice_cons {cs : List Value} {o : Nat} {v : Value} {vs : List Value} (h : o + (vs.length + 1) ≤ cs.length) : splice cs o (v :: vs) = splice (cs.set o v) (o + 1) vs := by
  unfold splice
  apply List.ext_getElem?
  intro j
  simp only [List.getElem?_append, List.length_take, List.length_set, List.getElem?_take, List.getElem?_drop, List.length_cons, List.getElem?_set]
  by_cases h1 : j < o
  · rw [if_pos (by omega), if_pos h1, if_pos (by omega), if_pos (by omega), if_neg (by omega)]
  · rw [if_neg (by omega)]
    by_cases h2 : j = o
    · subst h2
      rw [if_pos (by omega), if_pos (by omega), if_pos (by omega), if_pos rfl, if_pos (by omega)]
      rw [show j - min j cs.length = 0 by omega]; rfl
    · rw [if_neg (show ¬ j < min (o + 1) cs.length by omega)]
      rw [show j - min o cs.length = (j - min (o + 1) cs.length) + 1 by omega]
      simp only [Nat.add_lt_add_iff_right, List.getElem?_cons_succ]
      split
      · rfl
      · rw [if_neg (by omega)]
        congr 1
        omega
theorem splice_length {cs : List Value} {o : Nat} {vs : List Value} (h : o + vs.length ≤ cs.length) : (splice cs o vs).length = cs.length := by
  unfold splice; simp; omega
theorem splice_nil (cs : List Value) (o : Nat) : splice cs o [] = cs := by simp [splice]
theorem mem_splice {cs : List Value} {o : Nat} {vs : List Value} {x : Value} (h : x ∈ splice cs o vs) : x ∈ cs ∨ x ∈ vs := by
  unfold splice at h
  rcases List.mem_append.1 h with h | h
  · exact Or.inl (List.mem_of_mem_take h)
  · rcases List.mem_append.1 h with h | h
    · exact Or.inr h
    · exact Or.inl (List.mem_of_mem_drop h)
theorem Lies.setCells {ρ : Nm} {b : Nat} {T : TypeId} {s κ : Nat} {row : Bool} : ∀ (vs : List Value) (o : Nat) (w : World) (cs : List Value), Lies ρ w b cs T s κ row → o + vs.length ≤ cs.length → Lies ρ (w.setCells b o (vs.map (ren0 ρ))) b (splice cs o vs) T s κ row
  | [], o, w, cs, h, _ => by rw [splice_nil]; exact h
  | v :: vs, o, w, cs, h, hl => by
    simp only [List.length_cons] at hl
    rw [splice_cons hl]
    exact Lies.setCells vs (o + 1) _ _ (h.set (by omega) v) (by simp; omega)
theorem setCells_kept (b : Nat) : ∀ (vs : List Value) (o : Nat) (w : World), Kept (fun x => x = b) w (w.setCells b o vs)
  | [], o, w => Kept.refl _ _
  | v :: vs, o, w => Kept.trans (b := w.setCell ⟨b, o, none⟩ v) (o1 := fun x => x = b) ⟨rfl, rfl, rfl, by simp [World.setCell], fun x _ hx => Below.heap_setCell w ⟨b, o, none⟩ v x hx⟩ (setCells_kept b vs (o + 1) _) (fun _ _ h => h) (fun _ _ h => h)

variable {A : Amb}
/-! ### the memory -/
structure MemOK (P : Program) (A : Amb) (D : Nat → Prop) (ρ : Nm) (m : Mem) (w : World) : Prop where
  s : A.S w
  dom : ∀ {i : Nat} {b : Blk}, m i = some b → D i ∧ A.Own (ρ i).1
  fit : ∀ {i : Nat} {cs : List Value} {T : TypeId} {r : Bool}, m i = some (cs, T, r) → ∀ v ∈ cs, Fit0 D v
  lies : ∀ {i : Nat} {cs : List Value} {T : TypeId} {r : Bool}, m i = some (cs, T, r) → Lies ρ w (ρ i).1 cs T (P.cellsOf T) (ρ i).2 r
  inj : ∀ {i j : Nat} {b c : Blk}, m i = some b → m j = some c → i ≠ j → (ρ i).1 ≠ (ρ j).1
def owns (ρ : Nm) (m : Mem) (b : Nat) : Prop := ∃ i c, m i = some c ∧ b = (ρ i).1
def ext (D : Nat → Prop) (a b : Nat) (i : Nat) : Prop := D i ∨ (a ≤ i ∧ i < b)
def LogOK (m : Mem) (a b : Nat) (l : Log) : Prop := ∀ e ∈ l, (m e.1).isSome = true ∨ (a ≤ e.1 ∧ e.1 < b)
structure Aft (P : Program) (A : Amb) (D : Nat → Prop) (ρ : Nm) (m : Mem) (nx : Nat) (w : World) (v : Value) (l : Log) (nx' : Nat) (ρ' : Nm) (w' : World) : Prop where
  same : ∀ i, ¬ (nx ≤ i ∧ i < nx') → ρ' i = ρ i
  fit : Fit (ext D nx nx') v
  mem : MemOK P A (ext D nx nx') ρ' (m.add l) w'
  kept : Kept (owns ρ m) w w'
  new : ∀ i b, nx ≤ i → i < nx' → m.add l i = some b → w.heap.size ≤ (ρ' i).1 ∨ owns ρ m (ρ' i).1
/-! ### what is asked -/
/-- a call: what it does with these blocks -/
def CallJ (P : Program) (A : Amb) (f : FuncId) (args : List Value) (sn : List (Nat × Blk)) (nx : Nat) (v : Value) (out : List (Nat × Blk)) (nx' : Nat) : Prop :=
  ∀ (D : Nat → Prop) (ρ : Nm) (w : World), MemOK P A D ρ (memL sn) w → (∀ u ∈ args, Fit D u) → (∀ i, D i → ¬ (nx ≤ i ∧ i < nx')) →
    Calls P f (args.map (ren ρ)).toArray w fun e w' => ∃ ρ', e = .returned (ren ρ' v) ∧ Aft P A D ρ (memL sn) nx w v (outLog sn out) nx' ρ' w'
/-- an operation: what it does with these blocks -/
def SemJ (P : Program) (A : Amb) (s : Nm → Sem Next) (sn : List (Nat × Blk)) (nx : Nat) (v : Value) (out : List (Nat × Blk)) (nx' : Nat) : Prop :=
  ∀ (D : Nat → Prop) (ρ : Nm) (w : World) (o : Oper) (a : Act) (K : Act → World → Prop) (Q : Exit → Act → World → Prop), MemOK P A D ρ (memL sn) w → (∀ i, D i → ¬ (nx ≤ i ∧ i < nx')) →
    (∀ ρ' w', Aft P A D ρ (memL sn) nx w v (outLog sn out) nx' ρ' w' → K (a.put o.dst (ren ρ' v)) w') → o.upon P a K Q ((s ρ).run P w)
def exitOf : X → Exit
  | .nrm => .normal
  | .ex id => .exit id
  | .ret => .ret
def FrL (D : Nat → Prop) (ρ : Nm) (vals : List (Nat × Value)) (a : Act) : Prop := ∀ t u, envL vals t = some u → a.tmps[t]? = some (ren ρ u) ∧ Fit D u
/-- code: what it does with these slots and blocks -/
def CodeJ (P : Program) (A : Amb) (c : Code) (n : Nat) (vals : List (Nat × Value)) (sn : List (Nat × Blk)) (nx : Nat) (x : X) (vals' : List (Nat × Value)) (out : List (Nat × Blk)) (nx' : Nat) : Prop :=
  ∀ (D : Nat → Prop) (ρ : Nm) (a : Act) (w : World) (Q : Exit → Act → World → Prop), FrL D ρ vals a → a.tmps.size = n → a.defers = [] → MemOK P A D ρ (memL sn) w → (∀ i, D i → ¬ (nx ≤ i ∧ i < nx')) →
    (∀ ρ' a' w', FrL (ext D nx nx') ρ' vals' a' → a'.tmps.size = n → a'.defers = [] → Aft P A D ρ (memL sn) nx w undef (outLog sn out) nx' ρ' w' → Q (exitOf x) a' w') → c.wp P Q a w
def okP (P : Program) (A : Amb) : Ans → Key → Prop
  | .br t, .b b => b = t
  | .gd t, .b b => b = t
  | .op v, .s s => ∀ W, A.S W → s.run P W = .ok (.value v) W
  | .call v, .c f args => ∀ W, A.S W → Calls P f args.toArray W (Ret v W)
  | .callR _ v, .cr f args sn => ∀ (ρ : Nm) (W : World), A.S W → (∀ e ∈ sn, Lies ρ W (ρ e.1).1 e.2.1 e.2.2.1 (P.cellsOf e.2.2.1) (ρ e.1).2 e.2.2.2) → Calls P f (args.map (ren ρ)).toArray W (Ret v W)
  | .eq y, .v x => x = y
  | .con _ v out d, .cm f args sn nx b => b = true ∧ CallJ P A f args sn nx v out (nx + d)
  | .con _ v out d, .sm s sn nx => SemJ P A s sn nx v out (nx + d)
  | .lp _ _ x vals' out d, .lp c n vals sn nx => CodeJ P A (.loop c) n vals sn nx x vals' out (nx + d)
  | _, _ => False
def Tr (ts ts' : Ts) (l : List ((Nat × Ans) × Key)) : Prop := ts.qs = l.map (·.1) ++ ts'.qs ∧ ts'.ks = (l.map (·.2)).reverse ++ ts.ks
def Sound (P : Program) (A : Amb) (ts ts' : Ts) (C : Prop) : Prop := ∃ l, Tr ts ts' l ∧ ((∀ p ∈ l, okP P A p.1.2 p.2) → C)
theorem Sound.refl {ts : Ts} {C : Prop} (h : C) : Sound P A ts ts C := ⟨[], ⟨rfl, rfl⟩, fun _ => h⟩
theorem Sound.like {t0 ts ts' t1 : Ts} {C : Prop} (h : Sound P A ts ts' C) (h0 : t0.qs = ts.qs ∧ t0.ks = ts.ks) (h1 : t1.qs = ts'.qs ∧ t1.ks = ts'.ks) : Sound P A t0 t1 C := by
  obtain ⟨l, ⟨a, b⟩, k⟩ := h
  exact ⟨l, ⟨by rw [h0.1, h1.1]; exact a, by rw [h1.2, h0.2]; exact b⟩, k⟩
theorem Sound.mono {ts ts' : Ts} {C C' : Prop} (h : Sound P A ts ts' C) (k : C → C') : Sound P A ts ts' C' := by
  obtain ⟨l, t, c⟩ := h
  exact ⟨l, t, fun x => k (c x)⟩
theorem Sound.bind {t0 t1 t2 : Ts} {C D : Prop} (h : Sound P A t0 t1 C) (k : Sound P A t1 t2 (C → D)) : Sound P A t0 t2 D := by
  obtain ⟨l, ⟨a, b⟩, c⟩ := h
  obtain ⟨l', ⟨a', b'⟩, c'⟩ := k
  refine ⟨l ++ l', ⟨by rw [a, a']; simp, by rw [b', b]; simp⟩, fun x => c' (fun p hp => x p (by simp [hp])) (c fun p hp => x p (by simp [hp]))⟩
theorem Sound.pop {ts : Ts} {a : Ans} {r : List (Nat × Ans)} (h : ts.pop = some (a, r)) (k : Key) : Sound P A ts ⟨ts.c, r, k :: ts.ks⟩ (okP P A a k) := by
  unfold Ts.pop at h
  split at h
  · cases h
  · rename_i n b q hq
    cases hb : Nat.beq n ts.c <;> simp only [hb, cond] at h
    · cases h
    · simp only [Option.some.injEq, Prod.mk.injEq] at h
      obtain ⟨rfl, rfl⟩ := h
      exact ⟨[((n, b), k)], ⟨by rw [hq]; rfl, rfl⟩, fun x => x ((n, b), k) (by simp)⟩
theorem Sound.bool {ts ts' : Ts} {b t : Bool} (h : ts.bool b = (t, ts')) : Sound P A ts ts' (b = t) := by
  unfold Ts.bool at h
  split at h
  · rename_i u r hp
    simp only [Prod.mk.injEq] at h
    obtain ⟨rfl, rfl⟩ := h
    exact (Sound.pop hp (.b b)).mono fun k => k
  · simp only [Prod.mk.injEq] at h
    obtain ⟨rfl, rfl⟩ := h
    exact Sound.refl rfl
theorem Sound.grd {ts ts' : Ts} {b t : Bool} (h : ts.grd b = (t, ts')) : Sound P A ts ts' (b = t) := by
  unfold Ts.grd at h
  split at h
  · rename_i u r hp
    simp only [Prod.mk.injEq] at h
    obtain ⟨rfl, rfl⟩ := h
    exact (Sound.pop hp (.b b)).mono fun k => k
  · simp only [Prod.mk.injEq] at h
    obtain ⟨rfl, rfl⟩ := h
    exact Sound.refl rfl


/-! ### the memory, further -/
theorem MemOK.mono {D E : Nat → Prop} {ρ : Nm} {m : Mem} {w : World} (h : MemOK P A D ρ m w) (he : ∀ i, D i → E i) : MemOK P A E ρ m w :=
  ⟨h.s, fun k => ⟨he _ (h.dom k).1, (h.dom k).2⟩, fun k v hv => (h.fit k v hv).mono he, h.lies, h.inj⟩
theorem MemOK.lt {D : Nat → Prop} {ρ : Nm} {m : Mem} {w : World} (h : MemOK P A D ρ m w) {i : Nat} {b : Blk} (k : m i = some b) : (ρ i).1 < w.heap.size := (h.lies (cs := b.1) (T := b.2.1) (r := b.2.2) k).lt
theorem MemOK.kept {D : Nat → Prop} {own : Nat → Prop} {ρ : Nm} {m : Mem} {w w' : World} (h : MemOK P A D ρ m w) (k : Kept own w w') (h1 : ∀ b, own b → A.Own b) (h2 : ∀ i b, m i = some b → ¬ own (ρ i).1) : MemOK P A D ρ m w' :=
  ⟨A.keep h.s (k.mono fun b _ hb => h1 b hb), h.dom, h.fit, fun e => (h.lies e).same (k.block _ (h.lies e).lt (h2 _ _ e)), h.inj⟩
theorem Aft.refl {D : Nat → Prop} {ρ : Nm} {m : Mem} {nx : Nat} {w : World} {v : Value} (h : MemOK P A D ρ m w) (hv : Fit D v) : Aft P A D ρ m nx w v [] nx ρ w :=
  ⟨fun _ _ => rfl, hv.mono fun _ => Or.inl, h.mono fun _ => Or.inl, Kept.refl _ _, fun _ _ h1 h2 => by omega⟩
theorem add_dom {m : Mem} {a b : Nat} : ∀ {l : Log} {i : Nat} {c : Blk}, LogOK m a b l → m.add l i = some c → (m i).isSome = true ∨ (a ≤ i ∧ i < b)
  | [], i, c, _, h => Or.inl (by show (m i).isSome = true; rw [show m i = some c from h]; rfl)
  | (j, d) :: l, i, c, hl, h => by
    simp only [Mem.add, Mem.put] at h
    cases hij : Nat.beq i j <;> simp only [hij, cond] at h
    · exact add_dom (fun e he => hl e (by simp [he])) h
    · have : i = j := Nat.eq_of_beq_eq_true hij
      subst this
      exact hl (i, d) (by simp)
theorem add_mem {m : Mem} : ∀ {l : Log} {i : Nat} {c : Blk}, m.add l i = some c → m i = some c ∨ (i, some c) ∈ l
  | [], i, c, h => Or.inl h
  | (j, d) :: l, i, c, h => by
    simp only [Mem.add, Mem.put] at h
    cases hij : Nat.beq i j <;> simp only [hij, cond] at h
    · exact (add_mem h).imp id (by simp +contextual)
    · have : i = j := Nat.eq_of_beq_eq_true hij
      subst this
      subst h
      exact Or.inr (by simp)
theorem add_not {m : Mem} : ∀ {l : Log} {i : Nat}, (∀ e ∈ l, e.1 ≠ i) → m.add l i = m i
  | [], i, h => rfl
  | (j, d) :: l, i, h => by
    simp only [Mem.add, Mem.put]
    cases hij : Nat.beq i j <;> simp only [cond]
    · exact add_not fun e he => h e (by simp [he])
    · exact absurd (Nat.eq_of_beq_eq_true hij).symm (h (j, d) (by simp))
theorem add_append {m : Mem} : ∀ (l k : Log), (m.add l).add k = m.add (k ++ l)
  | l, [] => rfl
  | l, (j, d) :: k => by
    show Mem.put ((m.add l).add k) j d = Mem.put (m.add (k ++ l)) j d
    rw [add_append l k]
def upd (ρ : Nm) (n : Nat) (p : Nat × Nat) : Nm := fun i => if i = n then p else ρ i
theorem upd_self (ρ : Nm) (n : Nat) (p : Nat × Nat) : upd ρ n p n = p := by simp [upd]
theorem upd_ne (ρ : Nm) {n i : Nat} (p : Nat × Nat) (h : i ≠ n) : upd ρ n p i = ρ i := by simp [upd, h]
/-- a new block -/
theorem Aft.alloc {D : Nat → Prop} {ρ : Nm} {m : Mem} {nx : Nat} {w : World} {cs : List Value} {T : TypeId} {v : Value} {r : Bool} (h : MemOK P A D ρ m w) (hD : ∀ i, D i → i ≠ nx) (hc : ∀ v ∈ cs, Fit0 D v) (κ : Nat) (rest : Array Value) (hr : r = true → cs.length ≤ κ * P.cellsOf T ∧ κ * P.cellsOf T ≤ cs.length + rest.size) (hfv : Fit (fun i => i = nx) v) :
    Aft P A D ρ m nx w v [(nx, some (cs, T, r))] (nx + 1) (upd ρ nx (w.heap.size, κ)) (w.alloc (.cells ((cs.map (ren0 ρ)).toArray ++ rest) T)) := by
  have hρ : ∀ i, D i → ρ i = upd ρ nx (w.heap.size, κ) i := fun i hi => (upd_ne ρ _ (hD i hi)).symm
  have hn := upd_self ρ nx (w.heap.size, κ)
  have hu : ∀ i, i ≠ nx → upd ρ nx (w.heap.size, κ) i = ρ i := fun i hi => upd_ne ρ _ hi
  generalize upd ρ nx (w.heap.size, κ) = ρ' at *
  have hk : Kept (owns ρ m) w (w.alloc (.cells ((cs.map (ren0 ρ)).toArray ++ rest) T)) := Kept.of_below (fresh_below _ _)
  have hm : ∀ i b, m i = some b → i ≠ nx := fun i b e => hD i (h.dom e).1
  have key : ∀ {i : Nat} {b : Blk}, m.add [(nx, some (cs, T, r))] i = some b → (i = nx ∧ b = (cs, T, r)) ∨ (i ≠ nx ∧ m i = some b) := fun {i b} e => by
    rcases add_mem e with e | e
    · exact Or.inr ⟨hm _ _ e, e⟩
    · simp only [List.mem_singleton, Prod.mk.injEq, Option.some.injEq] at e
      exact Or.inl ⟨e.1, e.2⟩
  refine ⟨fun i hi => hu i (by omega), ?_, ⟨A.keep h.s (Kept.of_below (fresh_below _ _)), fun {i b} e => ?_, fun {i ds U r'} e v hv => ?_, fun {i ds U r'} e => ?_, fun {i j b c} e f hij => ?_⟩, hk, fun i b h1 h2 e => Or.inl ?_⟩
  · exact hfv.mono fun i hi => Or.inr ⟨by omega, by omega⟩
  · rcases key e with ⟨rfl, e2⟩ | ⟨hi, e2⟩
    · exact ⟨Or.inr ⟨by omega, by omega⟩, by rw [hn]; exact A.fresh h.s (Nat.le_refl _)⟩
    · exact ⟨Or.inl (h.dom e2).1, by rw [← hρ i (h.dom e2).1]; exact (h.dom e2).2⟩
  · rcases key e with ⟨rfl, e2⟩ | ⟨hi, e2⟩
    · obtain ⟨rfl, e3⟩ := Prod.mk.inj e2
      obtain ⟨rfl, rfl⟩ := Prod.mk.inj e3
      exact (hc v hv).mono fun _ => Or.inl
    · exact (h.fit e2 v hv).mono fun _ => Or.inl
  · rcases key e with ⟨rfl, e2⟩ | ⟨hi, e2⟩
    · obtain ⟨rfl, e3⟩ := Prod.mk.inj e2
      obtain ⟨rfl, rfl⟩ := Prod.mk.inj e3
      rw [hn]
      exact (Lies.new ρ w ds U _ κ r' rest hr).ren hc hρ
    · rw [← hρ i (h.dom e2).1]
      exact (((h.lies e2).same ((fresh_below w _).block _ (h.lies e2).lt)).ren (h.fit e2) hρ)
  · rcases key e with ⟨rfl, e2⟩ | ⟨hi, e2⟩ <;> rcases key f with ⟨hj, f2⟩ | ⟨hj, f2⟩
    · exact absurd hj.symm hij
    · rw [hn, ← hρ j (h.dom f2).1]; exact Nat.ne_of_gt (h.lt f2)
    · subst hj; rw [hn, ← hρ i (h.dom e2).1]; exact Nat.ne_of_lt (h.lt e2)
    · rw [← hρ i (h.dom e2).1, ← hρ j (h.dom f2).1]; exact h.inj e2 f2 hij
  · rw [show i = nx by omega, hn]; exact Nat.le_refl _
/-- a store into an own block -/
theorem Aft.store {D : Nat → Prop} {ρ : Nm} {m : Mem} {nx : Nat} {w : World} {i : Nat} {cs : List Value} {T : TypeId} {r : Bool} (h : MemOK P A D ρ m w) (hi : m i = some (cs, T, r)) {o : Nat} {vs : List Value} (ho : o + vs.length ≤ cs.length) (hc : ∀ v ∈ vs, Fit0 D v) :
    Aft P A D ρ m nx w undef [(i, some (splice cs o vs, T, r))] nx ρ (w.setCells (ρ i).1 o (vs.map (ren0 ρ))) := by
  have hk := setCells_kept (ρ i).1 (vs.map (ren0 ρ)) o w
  have key : ∀ {j : Nat} {b : Blk}, m.add [(i, some (splice cs o vs, T, r))] j = some b → (j = i ∧ b = (splice cs o vs, T, r)) ∨ (j ≠ i ∧ m j = some b) := fun {j b} e => by
    simp only [Mem.add, Mem.put] at e
    cases hij : Nat.beq j i <;> simp only [hij, cond] at e
    · exact Or.inr ⟨Nat.ne_of_beq_eq_false hij, e⟩
    · simp only [Option.some.injEq] at e
      exact Or.inl ⟨Nat.eq_of_beq_eq_true hij, e.symm⟩
  have hsome : ∀ {j : Nat} {b : Blk}, m.add [(i, some (splice cs o vs, T, r))] j = some b → ∃ c, m j = some c := fun {j b} e => by
    rcases key e with ⟨rfl, _⟩ | ⟨_, e2⟩
    · exact ⟨_, hi⟩
    · exact ⟨_, e2⟩
  refine ⟨fun _ _ => rfl, ?_, ⟨A.keep h.s (hk.mono fun b _ e => e ▸ (h.dom hi).2), fun {j b} e => ?_, fun {j ds U r'} e v hv => ?_, fun {j ds U r'} e => ?_, fun {j k b c} e f hjk => ?_⟩, hk.mono fun b _ e => ⟨i, _, hi, e⟩, fun j b h1 h2 => by omega⟩
  · intro ρ1 ρ2 _; rfl
  · obtain ⟨c, hc'⟩ := hsome e
    exact ⟨Or.inl (h.dom hc').1, (h.dom hc').2⟩
  · rcases key e with ⟨rfl, e2⟩ | ⟨hj, e2⟩
    · obtain ⟨rfl, e3⟩ := Prod.mk.inj e2
      obtain ⟨rfl, rfl⟩ := Prod.mk.inj e3
      rcases mem_splice hv with hv | hv
      · exact (h.fit hi v hv).mono fun _ => Or.inl
      · exact (hc v hv).mono fun _ => Or.inl
    · exact (h.fit e2 v hv).mono fun _ => Or.inl
  · rcases key e with ⟨rfl, e2⟩ | ⟨hj, e2⟩
    · obtain ⟨rfl, e3⟩ := Prod.mk.inj e2
      obtain ⟨rfl, rfl⟩ := Prod.mk.inj e3
      exact Lies.setCells vs o w cs (h.lies hi) ho
    · exact (h.lies e2).same (hk.block _ (h.lies e2).lt (h.inj e2 hi hj))
  · obtain ⟨b', e'⟩ := hsome e
    obtain ⟨c', f'⟩ := hsome f
    exact h.inj e' f' hjk
end Rx
end Go.Proofs.YtedfdphapcanoaaGreatDoor
end
