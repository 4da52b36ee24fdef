/- Several texts of this claim, one behind the other. -/
import Derived.Test.YtilfcikhipadpaaGreatDoorK1b
import Derived.Deep.MidRow
import Derived.Laws.StructEq
import Derived.Great.BuildSlice

section
/- A run reckoned by the kernel: what its words mean, and what single operations do. No program. -/
set_option linter.unusedVariables false
set_option linter.unusedSimpArgs false
namespace Go.Proofs.YtilfcikhipadpaaGreatDoor
open Go.RowKit Go.Lib
namespace Rx
variable {P : Program}

/-! ### values -/
theorem renS_real {ρ : Nm} {v : Value} (h : realS v = true) : renS ρ v = v := by
  cases v <;> try rfl
  case pointer a => cases a <;> simp_all [renS, realS, renA]
  case slice a n c => cases a <;> simp_all [renS, realS, renB, capA]
theorem map_id_of {f : Value → Value} {p : Value → Bool} (hf : ∀ v, p v = true → f v = v) {xs : Array Value} (h : xs.toList.all p = true) : (xs.toList.map f).toArray = xs := by
  have : xs.toList.map f = xs.toList := by
    rw [List.map_congr_left (g := id) (fun v hv => hf v (List.all_eq_true.1 h v hv)), List.map_id]
  rw [this]
theorem ren0_real {ρ : Nm} {v : Value} (h : real0 v = true) : ren0 ρ v = v := by
  unfold real0 at h
  split at h
  · simp only [Bool.and_eq_true] at h
    simp only [ren0]
    rw [map_id_of (fun v hv => renS_real hv) h.1, map_id_of (fun v hv => renS_real hv) h.2]
  · unfold ren0
    split
    · simp_all
    · exact renS_real h
theorem ren1_real {ρ : Nm} {v : Value} (h : real1 v = true) : ren1 ρ v = v := by
  unfold real1 at h
  split at h
  · simp only [ren1]
    rw [map_id_of (fun v hv => ren0_real hv) h]
  · unfold ren1
    split
    · simp_all
    · exact ren0_real h
theorem ren_real {ρ : Nm} {v : Value} (h : real v = true) : ren ρ v = v := by
  unfold real at h
  split at h
  · simp only [ren]
    rw [map_id_of (fun v hv => ren1_real hv) h]
  · unfold ren
    split
    · simp_all
    · exact ren1_real h
theorem ren_scal {ρ : Nm} {v : Value} (h : scal v = true) : ren ρ v = ren0 ρ v := by
  cases v <;> simp_all [scal, ren, ren1]
theorem ren_notTuple {ρ : Nm} {v : Value} (h : notTuple v = true) : ren ρ v = ren1 ρ v := by
  cases v <;> simp_all [notTuple, ren]
theorem cells_ren {ρ : Nm} {v : Value} (h : notTuple v = true) : (ren ρ v).cells = (v.cells.toList.map (ren0 ρ)).toArray := by
  cases v <;> simp_all [notTuple, ren, ren1, Value.cells, ren0, renS] <;> (try rfl)
  case pointer a => cases a <;> rfl
  case slice a n c => cases a <;> rfl
theorem oneCell_ren0 {ρ : Nm} {v : Value} (h : scal v = true) : (ren0 ρ v).oneCell' = true := by
  cases v <;> simp_all [scal, ren0, renS, Value.oneCell']
  case pointer a => cases a <;> rfl
  case slice a n c => cases a <;> rfl

/-- what v becomes hangs on the names of D alone -/
def Fit (D : Nat → Prop) (v : Value) : Prop := ∀ ρ ρ' : Nm, (∀ i, D i → ρ i = ρ' i) → ren ρ v = ren ρ' v
def Fit0 (D : Nat → Prop) (v : Value) : Prop := ∀ ρ ρ' : Nm, (∀ i, D i → ρ i = ρ' i) → ren0 ρ v = ren0 ρ' v
theorem Fit.mono {D E : Nat → Prop} {v : Value} (h : Fit D v) (he : ∀ i, D i → E i) : Fit E v := fun ρ ρ' k => h ρ ρ' fun i hi => k i (he i hi)
theorem Fit0.mono {D E : Nat → Prop} {v : Value} (h : Fit0 D v) (he : ∀ i, D i → E i) : Fit0 E v := fun ρ ρ' k => h ρ ρ' fun i hi => k i (he i hi)
theorem Fit.real {D : Nat → Prop} {v : Value} (h : real v = true) : Fit D v := fun ρ ρ' _ => by rw [ren_real h, ren_real h]
theorem Fit0.scal {D : Nat → Prop} {v : Value} (h : Fit0 D v) (hs : scal v = true) : Fit D v := fun ρ ρ' k => by rw [ren_scal hs, ren_scal hs, h ρ ρ' k]
theorem Fit0.agg {D : Nat → Prop} {cs : List Value} (h : ∀ v ∈ cs, Fit0 D v) : Fit D (.agg cs.toArray) := fun ρ ρ' k => by
  simp only [ren, ren1]
  rw [List.map_congr_left (fun v hv => h v hv ρ ρ' k)]
theorem Fit.cells {D : Nat → Prop} {v : Value} (h : Fit D v) (hn : notTuple v = true) : ∀ x ∈ v.cells.toList, Fit0 D x := by
  intro x hx ρ ρ' k
  have h1 : (ren ρ v).cells = (ren ρ' v).cells := by rw [h ρ ρ' k]
  rw [cells_ren hn, cells_ren hn] at h1
  have h2 : v.cells.toList.map (ren0 ρ) = v.cells.toList.map (ren0 ρ') := by simpa using h1
  exact List.map_inj_left.1 h2 x hx
theorem Fit.part {D : Nat → Prop} {vs : Array Value} (h : Fit D (.tuple vs)) {i : Nat} {v : Value} (hv : vs[i]? = some v) (hn : notTuple v = true) : Fit D v := by
  intro ρ ρ' k
  have h1 := h ρ ρ' k
  simp only [ren] at h1
  have h2 : vs.toList.map (ren1 ρ) = vs.toList.map (ren1 ρ') := by simpa using h1
  rw [ren_notTuple hn, ren_notTuple hn]
  exact List.map_inj_left.1 h2 v (by rw [← Array.getElem?_toList] at hv; exact List.mem_of_getElem? hv)
theorem Fit.tuple {D : Nat → Prop} {vs : List Value} (h : ∀ v ∈ vs, Fit D v ∧ notTuple v = true) : Fit D (.tuple vs.toArray) := fun ρ ρ' k => by
  simp only [ren]
  have : vs.map (ren1 ρ) = vs.map (ren1 ρ') := List.map_congr_left (fun v hv => by
    have := (h v hv).1 ρ ρ' k
    rwa [ren_notTuple (h v hv).2, ren_notTuple (h v hv).2] at this)
  rw [this]
theorem Fit.one {D : Nat → Prop} {vs : List Value} (h : ∀ v ∈ vs, Fit D v ∧ notTuple v = true) : Fit D (one vs) := by
  match vs, h with
  | [], h => exact Fit.tuple h
  | [v], h => exact (h v (by simp)).1
  | a :: b :: c, h => exact Fit.tuple h

/-! ### operations that ask for no memory -/
theorem pureRun_run {α : Type} (w : World) : ∀ (s : Sem α) (a : α), pureRun P s = some a → s.run P w = .ok a w := by
  intro s
  induction s with
  | pure a => intro b h; simp only [pureRun, Option.some.injEq] at h; subst h; rfl
  | program k ih => intro b h; exact ih P b h
  | _ => intro b h; cases h

end Rx
end Go.Proofs.YtilfcikhipadpaaGreatDoor
end

section
/- A run reckoned by the kernel: its memory, and what is asked. No program. -/
set_option linter.unusedVariables false
set_option linter.unusedSimpArgs false
namespace Go.Proofs.YtilfcikhipadpaaGreatDoor
open Go.RowKit Go.Lib
namespace Rx
variable {P : Program}

/-! ### what lies where -/
/-- what a step may do: own blocks and new ones alone -/
structure Kept (own : Nat → Prop) (w w' : World) : Prop where
  os : w'.os = w.os
  tape : w'.tape = w.tape
  output : w'.output = w.output
  size : w.heap.size ≤ w'.heap.size
  block : ∀ b, b < w.heap.size → ¬ own b → w'.heap[b]? = w.heap[b]?
theorem Kept.refl (own : Nat → Prop) (w : World) : Kept own w w := ⟨rfl, rfl, rfl, Nat.le_refl _, fun _ _ _ => rfl⟩
theorem Kept.trans {o1 o2 own : Nat → Prop} {a b c : World} (h : Kept o1 a b) (k : Kept o2 b c) (h1 : ∀ x, x < a.heap.size → o1 x → own x) (h2 : ∀ x, x < a.heap.size → o2 x → own x) : Kept own a c :=
  ⟨k.os.trans h.os, k.tape.trans h.tape, k.output.trans h.output, Nat.le_trans h.size k.size, fun x hx hn =>
    (k.block x (Nat.lt_of_lt_of_le hx h.size) fun e => hn (h2 x hx e)).trans (h.block x hx fun e => hn (h1 x hx e))⟩
theorem Kept.mono {o1 own : Nat → Prop} {a b : World} (h : Kept o1 a b) (h1 : ∀ x, x < a.heap.size → o1 x → own x) : Kept own a b :=
  ⟨h.os, h.tape, h.output, h.size, fun x hx hn => h.block x hx fun e => hn (h1 x hx e)⟩
theorem Kept.of_below {own : Nat → Prop} {w w' : World} (h : Below w.heap.size w w') : Kept own w w' := ⟨h.os, h.tape, h.output, h.size, fun b hb _ => h.block b hb⟩
theorem Kept.drew (own : Nat → Prop) (w : World) : Kept own w { w with drawn := w.drawn + 1 } := ⟨rfl, rfl, rfl, Nat.le_refl _, fun _ _ _ => rfl⟩

/-- the world about a run: S holds all along; blocks of Own may be written -/
structure Amb where
  S : World → Prop
  Own : Nat → Prop
  keep : ∀ {w w' : World}, S w → Kept Own w w' → S w'
  fresh : ∀ {w : World} {b : Nat}, S w → w.heap.size ≤ b → Own b
/-- nothing of w0 is written -/
def Amb.of (w0 : World) : Amb where
  S w := Below w0.heap.size w0 w
  Own b := w0.heap.size ≤ b
  keep h k := ⟨k.os.trans h.os, k.tape.trans h.tape, k.output.trans h.output, Nat.le_trans h.size k.size, fun b hb => (k.block b (Nat.lt_of_lt_of_le hb h.size) (by omega)).trans (h.block b hb)⟩
  fresh h k := Nat.le_trans h.size k

/-- block b has these cells (a row: and room for κ elements of s cells) -/
def Lies (ρ : Nm) (w : World) (b : Nat) (cs : List Value) (T : TypeId) (s κ : Nat) (row : Bool) : Prop :=
  ∃ rest : Array Value, ∃ fr : Nat × Nat, w.heap[b]? = some (.cells ((cs.map (ren0 ρ)).toArray ++ rest) T fr) ∧ (∀ j, j < cs.length + rest.size → ¬ (fr.1 ≤ j ∧ j < fr.2)) ∧ (row = true → cs.length ≤ κ * s ∧ κ * s ≤ cs.length + rest.size)
theorem Lies.cell {ρ : Nm} {w : World} {b : Nat} {cs : List Value} {T : TypeId} {s κ : Nat} {row : Bool} (h : Lies ρ w b cs T s κ row) {j : Nat} {v : Value} (hv : cs[j]? = some v) : w.cell? ⟨b, j, none⟩ = some (ren0 ρ v) := by
  obtain ⟨rest, fr, hb, hf⟩ := h
  have hj : j < cs.length := (List.getElem?_eq_some_iff.1 hv).1
  simp only [World.cell?, hb]
  simp [Array.getElem?_append, hj, (List.getElem?_eq_some_iff.1 hv).2]
theorem Lies.frozen {ρ : Nm} {w : World} {b : Nat} {cs : List Value} {T : TypeId} {s κ : Nat} {row : Bool} (h : Lies ρ w b cs T s κ row) {j : Nat} (hj : j < cs.length) : w.frozen? ⟨b, j, none⟩ = false := by
  obtain ⟨rest, fr, hb, hf⟩ := h
  have := hf.1 j (by omega)
  simp only [World.frozen?, hb]
  simpa using this
theorem Lies.lt {ρ : Nm} {w : World} {b : Nat} {cs : List Value} {T : TypeId} {s κ : Nat} {row : Bool} (h : Lies ρ w b cs T s κ row) : b < w.heap.size := by
  obtain ⟨rest, fr, hb, hf⟩ := h
  exact (Array.getElem?_eq_some_iff.1 hb).1
theorem Lies.same {ρ : Nm} {w w' : World} {b : Nat} {cs : List Value} {T : TypeId} {s κ : Nat} {row : Bool} (h : Lies ρ w b cs T s κ row) (k : w'.heap[b]? = w.heap[b]?) : Lies ρ w' b cs T s κ row := by
  obtain ⟨rest, fr, hb, hf⟩ := h
  exact ⟨rest, fr, k.trans hb, hf⟩
theorem Lies.ren {D : Nat → Prop} {ρ ρ' : Nm} {w : World} {b : Nat} {cs : List Value} {T : TypeId} {s κ : Nat} {row : Bool} (h : Lies ρ w b cs T s κ row) (hf : ∀ v ∈ cs, Fit0 D v) (hd : ∀ i, D i → ρ i = ρ' i) : Lies ρ' w b cs T s κ row := by
  obtain ⟨rest, fr, hb, hz⟩ := h
  exact ⟨rest, fr, by rw [← List.map_congr_left (fun v hv => hf v hv ρ ρ' hd)]; exact hb, hz⟩
theorem Lies.new (ρ : Nm) (w : World) (cs : List Value) (T : TypeId) (s κ : Nat) (row : Bool) (rest : Array Value) (hr : row = true → cs.length ≤ κ * s ∧ κ * s ≤ cs.length + rest.size) : Lies ρ (w.alloc (.cells ((cs.map (ren0 ρ)).toArray ++ rest) T)) w.heap.size cs T s κ row :=
  ⟨rest, (0, 0), by rw [heap_alloc_new], fun j _ => by simp, hr⟩
theorem Lies.set {ρ : Nm} {w : World} {b : Nat} {cs : List Value} {T : TypeId} {s κ : Nat} {row : Bool} (h : Lies ρ w b cs T s κ row) {j : Nat} (hj : j < cs.length) (v : Value) : Lies ρ (w.setCell ⟨b, j, none⟩ (ren0 ρ v)) b (cs.set j v) T s κ row := by
  obtain ⟨rest, fr, hb, hf⟩ := h
  refine ⟨rest, fr, ?_, fun k hk => hf.1 k (by simpa using hk), fun h => by simpa using hf.2 h⟩
  simp only [World.setCell, Array.getElem?_modify, hb, if_true, Option.map_some]
  simp
  rw [Array.setIfInBounds_append_left (by simpa using hj)]
  simp
theorem splice_cons {cs : List Value} {o : Nat} {v : Value} {vs : List Value} (h : o + (vs.length + 1) ≤ cs.length) : splice cs o (v :: vs) = splice (cs.set o v) (o + 1) vs := by
  unfold splice
  apply List.ext_getElem?
  intro j
  simp only [List.getElem?_append, List.length_take, List.length_set, List.getElem?_take, List.getElem?_drop, List.length_cons, List.getElem?_set]
  by_cases h1 : j < o
  · rw [if_pos (by omega), if_pos h1, if_pos (by omega), if_pos (by omega), if_neg (by omega)]
  · rw [if_neg (by omega)]
    by_cases h2 : j = o
    · subst h2
      rw [if_pos (by omega), if_pos (by omega), if_pos (by omega), if_pos rfl, if_pos (by omega)]
      rw [show j - min j cs.length = 0 by omega]; rfl
    · rw [if_neg (show ¬ j < min (o + 1) cs.length by omega)]
      rw [show j - min o cs.length = (j - min (o + 1) cs.length) + 1 by omega]
      simp only [Nat.add_lt_add_iff_right, List.getElem?_cons_succ]
      split
      · rfl
      · rw [if_neg (by omega)]
        congr 1
        omega
theorem splice_nil (cs : List Value) (o : Nat) : splice cs o [] = cs := by simp [splice]
theorem mem_splice {cs : List Value} {o : Nat} {vs : List Value} {x : Value} (h : x ∈ splice cs o vs) : x ∈ cs ∨ x ∈ vs := by
  unfold splice at h
  rcases List.mem_append.1 h with h | h
  · exact Or.inl (List.mem_of_mem_take h)
  · rcases List.mem_append.1 h with h | h
    · exact Or.inr h
    · exact Or.inl (List.mem_of_mem_drop h)
theorem Lies.setCells {ρ : Nm} {b : Nat} {T : TypeId} {s κ : Nat} {row : Bool} : ∀ (vs : List Value) (o : Nat) (w : World) (cs : List Value), Lies ρ w b cs T s κ row → o + vs.length ≤ cs.length → Lies ρ (w.setCells b o (vs.map (ren0 ρ))) b (splice cs o vs) T s κ row
  | [], o, w, cs, h, _ => by rw [splice_nil]; exact h
  | v :: vs, o, w, cs, h, hl => by
    simp only [List.length_cons] at hl
    rw [splice_cons hl]
    exact Lies.setCells vs (o + 1) _ _ (h.set (by omega) v) (by simp; omega)
theorem setCells_kept (b : Nat) : ∀ (vs : List Value) (o : Nat) (w : World), Kept (fun x => x = b) w (w.setCells b o vs)
  | [], o, w => Kept.refl _ _
  | v :: vs, o, w => Kept.trans (b := w.setCell ⟨b, o, none⟩ v) (o1 := fun x => x = b) ⟨rfl, rfl, rfl, by simp [World.setCell], fun x _ hx => Below.heap_setCell w ⟨b, o, none⟩ v x hx⟩ (setCells_kept b vs (o + 1) _) (fun _ _ h => h) (fun _ _ h => h)

variable {A : Amb}
/-! ### the memory -/
structure MemOK (P : Program) (A : Amb) (D : Nat → Prop) (ρ : Nm) (m : Mem) (w : World) : Prop where
  s : A.S w
  dom : ∀ {i : Nat} {b : Blk}, m i = some b → D i ∧ A.Own (ρ i).1
  fit : ∀ {i : Nat} {cs : List Value} {T : TypeId} {r : Bool}, m i = some (cs, T, r) → ∀ v ∈ cs, Fit0 D v
  lies : ∀ {i : Nat} {cs : List Value} {T : TypeId} {r : Bool}, m i = some (cs, T, r) → Lies ρ w (ρ i).1 cs T (P.cellsOf T) (ρ i).2 r
  inj : ∀ {i j : Nat} {b c : Blk}, m i = some b → m j = some c → i ≠ j → (ρ i).1 ≠ (ρ j).1
def owns (ρ : Nm) (m : Mem) (b : Nat) : Prop := ∃ i c, m i = some c ∧ b = (ρ i).1
def ext (D : Nat → Prop) (a b : Nat) (i : Nat) : Prop := D i ∨ (a ≤ i ∧ i < b)
def LogOK (m : Mem) (a b : Nat) (l : Log) : Prop := ∀ e ∈ l, (m e.1).isSome = true ∨ (a ≤ e.1 ∧ e.1 < b)
structure Aft (P : Program) (A : Amb) (D : Nat → Prop) (ρ : Nm) (m : Mem) (nx : Nat) (w : World) (v : Value) (l : Log) (nx' : Nat) (ρ' : Nm) (w' : World) : Prop where
  same : ∀ i, ¬ (nx ≤ i ∧ i < nx') → ρ' i = ρ i
  fit : Fit (ext D nx nx') v
  mem : MemOK P A (ext D nx nx') ρ' (m.add l) w'
  kept : Kept (owns ρ m) w w'
  new : ∀ i b, nx ≤ i → i < nx' → m.add l i = some b → w.heap.size ≤ (ρ' i).1 ∨ owns ρ m (ρ' i).1
/-! ### what is asked -/
/-- a call: what it does with these blocks -/
def CallJ (P : Program) (A : Amb) (f : FuncId) (args : List Value) (sn : List (Nat × Blk)) (nx : Nat) (v : Value) (out : List (Nat × Blk)) (nx' : Nat) : Prop :=
  ∀ (D : Nat → Prop) (ρ : Nm) (w : World), MemOK P A D ρ (memL sn) w → (∀ u ∈ args, Fit D u) → (∀ i, D i → ¬ (nx ≤ i ∧ i < nx')) →
    Calls P f (args.map (ren ρ)).toArray w fun e w' => ∃ ρ', e = .returned (ren ρ' v) ∧ Aft P A D ρ (memL sn) nx w v (outLog sn out) nx' ρ' w'
/-- an operation: what it does with these blocks -/
def SemJ (P : Program) (A : Amb) (s : Nm → Sem Next) (sn : List (Nat × Blk)) (nx : Nat) (v : Value) (out : List (Nat × Blk)) (nx' : Nat) : Prop :=
  ∀ (D : Nat → Prop) (ρ : Nm) (w : World) (o : Oper) (a : Act) (K : Act → World → Prop) (Q : Exit → Act → World → Prop), MemOK P A D ρ (memL sn) w → (∀ i, D i → ¬ (nx ≤ i ∧ i < nx')) →
    (∀ ρ' w', Aft P A D ρ (memL sn) nx w v (outLog sn out) nx' ρ' w' → K (a.put o.dst (ren ρ' v)) w') → o.upon P a K Q ((s ρ).run P w)
def exitOf : X → Exit
  | .nrm => .normal
  | .ex id => .exit id
  | .ret => .ret
def FrL (D : Nat → Prop) (ρ : Nm) (vals : List (Nat × Value)) (a : Act) : Prop := ∀ t u, envL vals t = some u → a.tmps[t]? = some (ren ρ u) ∧ Fit D u
/-- code: what it does with these slots and blocks -/
def CodeJ (P : Program) (A : Amb) (c : Code) (n : Nat) (vals : List (Nat × Value)) (sn : List (Nat × Blk)) (nx : Nat) (x : X) (vals' : List (Nat × Value)) (out : List (Nat × Blk)) (nx' : Nat) : Prop :=
  ∀ (D : Nat → Prop) (ρ : Nm) (a : Act) (w : World) (Q : Exit → Act → World → Prop), FrL D ρ vals a → a.tmps.size = n → a.defers = [] → MemOK P A D ρ (memL sn) w → (∀ i, D i → ¬ (nx ≤ i ∧ i < nx')) →
    (∀ ρ' a' w', FrL (ext D nx nx') ρ' vals' a' → a'.tmps.size = n → a'.defers = [] → Aft P A D ρ (memL sn) nx w undef (outLog sn out) nx' ρ' w' → Q (exitOf x) a' w') → c.wp P Q a w
def okP (P : Program) (A : Amb) : Ans → Key → Prop
  | .br t, .b b => b = t
  | .gd t, .b b => b = t
  | .op v, .s s => ∀ W, A.S W → s.run P W = .ok (.value v) W
  | .call v, .c f args => ∀ W, A.S W → Calls P f args.toArray W (Ret v W)
  | .callR _ v, .cr f args sn => ∀ (ρ : Nm) (W : World), A.S W → (∀ e ∈ sn, Lies ρ W (ρ e.1).1 e.2.1 e.2.2.1 (P.cellsOf e.2.2.1) (ρ e.1).2 e.2.2.2) → Calls P f (args.map (ren ρ)).toArray W (Ret v W)
  | .eq y, .v x => x = y
  | .con _ v out d, .cm f args sn nx b => b = true ∧ CallJ P A f args sn nx v out (nx + d)
  | .con _ v out d, .sm s sn nx => SemJ P A s sn nx v out (nx + d)
  | .rd _ ws v out d, .cm f args sn nx b => b = true ∧ CallJ P A f args sn nx v (outF sn ws out) (nx + d)
  | .rd _ ws v out d, .sm s sn nx => SemJ P A s sn nx v (outF sn ws out) (nx + d)
  | .lp _ _ x vals' out d, .lp c n vals sn nx => CodeJ P A (.loop c) n vals sn nx x vals' out (nx + d)
  | _, _ => False
def Tr (ts ts' : Ts) (l : List ((Nat × Ans) × Key)) : Prop := ts.qs = l.map (·.1) ++ ts'.qs ∧ ts'.ks = (l.map (·.2)).reverse ++ ts.ks
def Sound (P : Program) (A : Amb) (ts ts' : Ts) (C : Prop) : Prop := ∃ l, Tr ts ts' l ∧ ((∀ p ∈ l, okP P A p.1.2 p.2) → C)
theorem Sound.refl {ts : Ts} {C : Prop} (h : C) : Sound P A ts ts C := ⟨[], ⟨rfl, rfl⟩, fun _ => h⟩
theorem Sound.like {t0 ts ts' t1 : Ts} {C : Prop} (h : Sound P A ts ts' C) (h0 : t0.qs = ts.qs ∧ t0.ks = ts.ks) (h1 : t1.qs = ts'.qs ∧ t1.ks = ts'.ks) : Sound P A t0 t1 C := by
  obtain ⟨l, ⟨a, b⟩, k⟩ := h
  exact ⟨l, ⟨by rw [h0.1, h1.1]; exact a, by rw [h1.2, h0.2]; exact b⟩, k⟩
theorem Sound.mono {ts ts' : Ts} {C C' : Prop} (h : Sound P A ts ts' C) (k : C → C') : Sound P A ts ts' C' := by
  obtain ⟨l, t, c⟩ := h
  exact ⟨l, t, fun x => k (c x)⟩
theorem Sound.bind {t0 t1 t2 : Ts} {C D : Prop} (h : Sound P A t0 t1 C) (k : Sound P A t1 t2 (C → D)) : Sound P A t0 t2 D := by
  obtain ⟨l, ⟨a, b⟩, c⟩ := h
  obtain ⟨l', ⟨a', b'⟩, c'⟩ := k
  refine ⟨l ++ l', ⟨by rw [a, a']; simp, by rw [b', b]; simp⟩, fun x => c' (fun p hp => x p (by simp [hp])) (c fun p hp => x p (by simp [hp]))⟩
theorem Sound.pop {ts : Ts} {a : Ans} {r : List (Nat × Ans)} (h : ts.pop = some (a, r)) (k : Key) : Sound P A ts ⟨ts.c, r, k :: ts.ks⟩ (okP P A a k) := by
  unfold Ts.pop at h
  split at h
  · cases h
  · rename_i n b q hq
    cases hb : Nat.beq n ts.c <;> simp only [hb, cond] at h
    · cases h
    · simp only [Option.some.injEq, Prod.mk.injEq] at h
      obtain ⟨rfl, rfl⟩ := h
      exact ⟨[((n, b), k)], ⟨by rw [hq]; rfl, rfl⟩, fun x => x ((n, b), k) (by simp)⟩
theorem Sound.bool {ts ts' : Ts} {b t : Bool} (h : ts.bool b = (t, ts')) : Sound P A ts ts' (b = t) := by
  unfold Ts.bool at h
  split at h
  · rename_i u r hp
    simp only [Prod.mk.injEq] at h
    obtain ⟨rfl, rfl⟩ := h
    exact (Sound.pop hp (.b b)).mono fun k => k
  · simp only [Prod.mk.injEq] at h
    obtain ⟨rfl, rfl⟩ := h
    exact Sound.refl rfl
theorem Sound.grd {ts ts' : Ts} {b t : Bool} (h : ts.grd b = (t, ts')) : Sound P A ts ts' (b = t) := by
  unfold Ts.grd at h
  split at h
  · rename_i u r hp
    simp only [Prod.mk.injEq] at h
    obtain ⟨rfl, rfl⟩ := h
    exact (Sound.pop hp (.b b)).mono fun k => k
  · simp only [Prod.mk.injEq] at h
    obtain ⟨rfl, rfl⟩ := h
    exact Sound.refl rfl


/-! ### the memory, further -/
theorem MemOK.mono {D E : Nat → Prop} {ρ : Nm} {m : Mem} {w : World} (h : MemOK P A D ρ m w) (he : ∀ i, D i → E i) : MemOK P A E ρ m w :=
  ⟨h.s, fun k => ⟨he _ (h.dom k).1, (h.dom k).2⟩, fun k v hv => (h.fit k v hv).mono he, h.lies, h.inj⟩
theorem MemOK.lt {D : Nat → Prop} {ρ : Nm} {m : Mem} {w : World} (h : MemOK P A D ρ m w) {i : Nat} {b : Blk} (k : m i = some b) : (ρ i).1 < w.heap.size := (h.lies (cs := b.1) (T := b.2.1) (r := b.2.2) k).lt
theorem MemOK.kept {D : Nat → Prop} {own : Nat → Prop} {ρ : Nm} {m : Mem} {w w' : World} (h : MemOK P A D ρ m w) (k : Kept own w w') (h1 : ∀ b, own b → A.Own b) (h2 : ∀ i b, m i = some b → ¬ own (ρ i).1) : MemOK P A D ρ m w' :=
  ⟨A.keep h.s (k.mono fun b _ hb => h1 b hb), h.dom, h.fit, fun e => (h.lies e).same (k.block _ (h.lies e).lt (h2 _ _ e)), h.inj⟩
theorem Aft.refl {D : Nat → Prop} {ρ : Nm} {m : Mem} {nx : Nat} {w : World} {v : Value} (h : MemOK P A D ρ m w) (hv : Fit D v) : Aft P A D ρ m nx w v [] nx ρ w :=
  ⟨fun _ _ => rfl, hv.mono fun _ => Or.inl, h.mono fun _ => Or.inl, Kept.refl _ _, fun _ _ h1 h2 => by omega⟩
theorem add_dom {m : Mem} {a b : Nat} : ∀ {l : Log} {i : Nat} {c : Blk}, LogOK m a b l → m.add l i = some c → (m i).isSome = true ∨ (a ≤ i ∧ i < b)
  | [], i, c, _, h => Or.inl (by show (m i).isSome = true; rw [show m i = some c from h]; rfl)
  | (j, d) :: l, i, c, hl, h => by
    simp only [Mem.add, Mem.put] at h
    cases hij : Nat.beq i j <;> simp only [hij, cond] at h
    · exact add_dom (fun e he => hl e (by simp [he])) h
    · have : i = j := Nat.eq_of_beq_eq_true hij
      subst this
      exact hl (i, d) (by simp)
theorem add_mem {m : Mem} : ∀ {l : Log} {i : Nat} {c : Blk}, m.add l i = some c → m i = some c ∨ (i, some c) ∈ l
  | [], i, c, h => Or.inl h
  | (j, d) :: l, i, c, h => by
    simp only [Mem.add, Mem.put] at h
    cases hij : Nat.beq i j <;> simp only [hij, cond] at h
    · exact (add_mem h).imp id (by simp +contextual)
    · have : i = j := Nat.eq_of_beq_eq_true hij
      subst this
      subst h
      exact Or.inr (by simp)
theorem add_not {m : Mem} : ∀ {l : Log} {i : Nat}, (∀ e ∈ l, e.1 ≠ i) → m.add l i = m i
  | [], i, h => rfl
  | (j, d) :: l, i, h => by
    simp only [Mem.add, Mem.put]
    cases hij : Nat.beq i j <;> simp only [cond]
    · exact add_not fun e he => h e (by simp [he])
    · exact absurd (Nat.eq_of_beq_eq_true hij).symm (h (j, d) (by simp))
theorem add_append {m : Mem} : ∀ (l k : Log), (m.add l).add k = m.add (k ++ l)
  | l, [] => rfl
  | l, (j, d) :: k => by
    show Mem.put ((m.add l).add k) j d = Mem.put (m.add (k ++ l)) j d
    rw [add_append l k]
def upd (ρ : Nm) (n : Nat) (p : Nat × Nat) : Nm := fun i => if i = n then p else ρ i
theorem upd_self (ρ : Nm) (n : Nat) (p : Nat × Nat) : upd ρ n p n = p := by simp [upd]
theorem upd_ne (ρ : Nm) {n i : Nat} (p : Nat × Nat) (h : i ≠ n) : upd ρ n p i = ρ i := by simp [upd, h]
/-- a new block -/
theorem Aft.alloc {D : Nat → Prop} {ρ : Nm} {m : Mem} {nx : Nat} {w : World} {cs : List Value} {T : TypeId} {v : Value} {r : Bool} (h : MemOK P A D ρ m w) (hD : ∀ i, D i → i ≠ nx) (hc : ∀ v ∈ cs, Fit0 D v) (κ : Nat) (rest : Array Value) (hr : r = true → cs.length ≤ κ * P.cellsOf T ∧ κ * P.cellsOf T ≤ cs.length + rest.size) (hfv : Fit (fun i => i = nx) v) :
    Aft P A D ρ m nx w v [(nx, some (cs, T, r))] (nx + 1) (upd ρ nx (w.heap.size, κ)) (w.alloc (.cells ((cs.map (ren0 ρ)).toArray ++ rest) T)) := by
  have hρ : ∀ i, D i → ρ i = upd ρ nx (w.heap.size, κ) i := fun i hi => (upd_ne ρ _ (hD i hi)).symm
  have hn := upd_self ρ nx (w.heap.size, κ)
  have hu : ∀ i, i ≠ nx → upd ρ nx (w.heap.size, κ) i = ρ i := fun i hi => upd_ne ρ _ hi
  generalize upd ρ nx (w.heap.size, κ) = ρ' at *
  have hk : Kept (owns ρ m) w (w.alloc (.cells ((cs.map (ren0 ρ)).toArray ++ rest) T)) := Kept.of_below (fresh_below _ _)
  have hm : ∀ i b, m i = some b → i ≠ nx := fun i b e => hD i (h.dom e).1
  have key : ∀ {i : Nat} {b : Blk}, m.add [(nx, some (cs, T, r))] i = some b → (i = nx ∧ b = (cs, T, r)) ∨ (i ≠ nx ∧ m i = some b) := fun {i b} e => by
    rcases add_mem e with e | e
    · exact Or.inr ⟨hm _ _ e, e⟩
    · simp only [List.mem_singleton, Prod.mk.injEq, Option.some.injEq] at e
      exact Or.inl ⟨e.1, e.2⟩
  refine ⟨fun i hi => hu i (by omega), ?_, ⟨A.keep h.s (Kept.of_below (fresh_below _ _)), fun {i b} e => ?_, fun {i ds U r'} e v hv => ?_, fun {i ds U r'} e => ?_, fun {i j b c} e f hij => ?_⟩, hk, fun i b h1 h2 e => Or.inl ?_⟩
  · exact hfv.mono fun i hi => Or.inr ⟨by omega, by omega⟩
  · rcases key e with ⟨rfl, e2⟩ | ⟨hi, e2⟩
    · exact ⟨Or.inr ⟨by omega, by omega⟩, by rw [hn]; exact A.fresh h.s (Nat.le_refl _)⟩
    · exact ⟨Or.inl (h.dom e2).1, by rw [← hρ i (h.dom e2).1]; exact (h.dom e2).2⟩
  · rcases key e with ⟨rfl, e2⟩ | ⟨hi, e2⟩
    · obtain ⟨rfl, e3⟩ := Prod.mk.inj e2
      obtain ⟨rfl, rfl⟩ := Prod.mk.inj e3
      exact (hc v hv).mono fun _ => Or.inl
    · exact (h.fit e2 v hv).mono fun _ => Or.inl
  · rcases key e with ⟨rfl, e2⟩ | ⟨hi, e2⟩
    · obtain ⟨rfl, e3⟩ := Prod.mk.inj e2
      obtain ⟨rfl, rfl⟩ := Prod.mk.inj e3
      rw [hn]
      exact (Lies.new ρ w ds U _ κ r' rest hr).ren hc hρ
    · rw [← hρ i (h.dom e2).1]
      exact (((h.lies e2).same ((fresh_below w _).block _ (h.lies e2).lt)).ren (h.fit e2) hρ)
  · rcases key e with ⟨rfl, e2⟩ | ⟨hi, e2⟩ <;> rcases key f with ⟨hj, f2⟩ | ⟨hj, f2⟩
    · exact absurd hj.symm hij
    · rw [hn, ← hρ j (h.dom f2).1]; exact Nat.ne_of_gt (h.lt f2)
    · subst hj; rw [hn, ← hρ i (h.dom e2).1]; exact Nat.ne_of_lt (h.lt e2)
    · rw [← hρ i (h.dom e2).1, ← hρ j (h.dom f2).1]; exact h.inj e2 f2 hij
  · rw [show i = nx by omega, hn]; exact Nat.le_refl _
/-- a store into an own block -/
theorem Aft.store {D : Nat → Prop} {ρ : Nm} {m : Mem} {nx : Nat} {w : World} {i : Nat} {cs : List Value} {T : TypeId} {r : Bool} (h : MemOK P A D ρ m w) (hi : m i = some (cs, T, r)) {o : Nat} {vs : List Value} (ho : o + vs.length ≤ cs.length) (hc : ∀ v ∈ vs, Fit0 D v) :
    Aft P A D ρ m nx w undef [(i, some (splice cs o vs, T, r))] nx ρ (w.setCells (ρ i).1 o (vs.map (ren0 ρ))) := by
  have hk := setCells_kept (ρ i).1 (vs.map (ren0 ρ)) o w
  have key : ∀ {j : Nat} {b : Blk}, m.add [(i, some (splice cs o vs, T, r))] j = some b → (j = i ∧ b = (splice cs o vs, T, r)) ∨ (j ≠ i ∧ m j = some b) := fun {j b} e => by
    simp only [Mem.add, Mem.put] at e
    cases hij : Nat.beq j i <;> simp only [hij, cond] at e
    · exact Or.inr ⟨Nat.ne_of_beq_eq_false hij, e⟩
    · simp only [Option.some.injEq] at e
      exact Or.inl ⟨Nat.eq_of_beq_eq_true hij, e.symm⟩
  have hsome : ∀ {j : Nat} {b : Blk}, m.add [(i, some (splice cs o vs, T, r))] j = some b → ∃ c, m j = some c := fun {j b} e => by
    rcases key e with ⟨rfl, _⟩ | ⟨_, e2⟩
    · exact ⟨_, hi⟩
    · exact ⟨_, e2⟩
  refine ⟨fun _ _ => rfl, ?_, ⟨A.keep h.s (hk.mono fun b _ e => e ▸ (h.dom hi).2), fun {j b} e => ?_, fun {j ds U r'} e v hv => ?_, fun {j ds U r'} e => ?_, fun {j k b c} e f hjk => ?_⟩, hk.mono fun b _ e => ⟨i, _, hi, e⟩, fun j b h1 h2 => by omega⟩
  · intro ρ1 ρ2 _; rfl
  · obtain ⟨c, hc'⟩ := hsome e
    exact ⟨Or.inl (h.dom hc').1, (h.dom hc').2⟩
  · rcases key e with ⟨rfl, e2⟩ | ⟨hj, e2⟩
    · obtain ⟨rfl, e3⟩ := Prod.mk.inj e2
      obtain ⟨rfl, rfl⟩ := Prod.mk.inj e3
      rcases mem_splice hv with hv | hv
      · exact (h.fit hi v hv).mono fun _ => Or.inl
      · exact (hc v hv).mono fun _ => Or.inl
    · exact (h.fit e2 v hv).mono fun _ => Or.inl
  · rcases key e with ⟨rfl, e2⟩ | ⟨hj, e2⟩
    · obtain ⟨rfl, e3⟩ := Prod.mk.inj e2
      obtain ⟨rfl, rfl⟩ := Prod.mk.inj e3
      exact Lies.setCells vs o w cs (h.lies hi) ho
    · exact (h.lies e2).same (hk.block _ (h.lies e2).lt (h.inj e2 hi hj))
  · obtain ⟨b', e'⟩ := hsome e
    obtain ⟨c', f'⟩ := hsome f
    exact h.inj e' f' hjk
end Rx
end Go.Proofs.YtilfcikhipadpaaGreatDoor
end

section
/- A run reckoned by the kernel: each operation does what the reckoning says. No program. -/
set_option linter.unusedVariables false
set_option linter.unusedSimpArgs false
namespace Go.Proofs.YtilfcikhipadpaaGreatDoor
open Go.RowKit Go.Lib
namespace Rx
variable {P : Program} {A : Amb}

def EvOK (D : Nat → Prop) (ρ : Nm) (ev : Operand → Option Value) (a : Act) : Prop := ∀ x u, ev x = some u → a.eval x = ren ρ u ∧ Fit D u
def OpS (P : Program) (A : Amb) (o : Oper) (ev : Operand → Option Value) (m : Mem) (nx : Nat) (ts ts' : Ts) (v : Value) (l : Log) (nx' : Nat) : Prop :=
  nx ≤ nx' ∧ LogOK m nx nx' l ∧ Sound P A ts ts' (∀ (D : Nat → Prop) (ρ : Nm) (a : Act) (w : World) (K : Act → World → Prop) (Q : Exit → Act → World → Prop),
    EvOK D ρ ev a → MemOK P A D ρ m w → (∀ i, D i → ¬ (nx ≤ i ∧ i < nx')) → (∀ ρ' w', Aft P A D ρ m nx w v l nx' ρ' w' → K (a.put o.dst (ren ρ' v)) w') → o.wp P a w K Q)
def CallR (P : Program) (A : Amb) (f : FuncId) (args : List Value) (m : Mem) (nx : Nat) (ts : Ts) (out : Out) : Prop :=
  nx ≤ out.nx ∧ LogOK m nx out.nx out.log ∧ notTuple out.v = notTuple out.v ∧ Sound P A ts out.ts (∀ (D : Nat → Prop) (ρ : Nm) (w : World), MemOK P A D ρ m w → (∀ u ∈ args, Fit D u) → (∀ i, D i → ¬ (nx ≤ i ∧ i < out.nx)) →
    Calls P f (args.map (ren ρ)).toArray w fun e w' => ∃ ρ', e = .returned (ren ρ' out.v) ∧ Aft P A D ρ m nx w out.v out.log out.nx ρ' w')
def CallS (P : Program) (A : Amb) (call : CallF) : Prop := ∀ f args m nx ts out, call f args m nx ts = some out → CallR P A f args m nx ts out

/-- an operation that yields a value and leaves the world -/
theorem OpS.val {o : Oper} {ev : Operand → Option Value} {m : Mem} {nx : Nat} {ts : Ts} {v : Value}
    (h : ∀ (D : Nat → Prop) (ρ : Nm) (a : Act) (w : World), EvOK D ρ ev a → MemOK P A D ρ m w → (execOp a.eval o).run P w = .ok (.value (ren ρ v)) w ∧ Fit D v) : OpS P A o ev m nx ts ts v [] nx :=
  ⟨Nat.le_refl _, fun e he => (by cases he), Sound.refl fun D ρ a w K Q he hm hd hk => by
    obtain ⟨h1, h2⟩ := h D ρ a w he hm
    unfold Oper.wp
    rw [h1]
    exact hk ρ w (Aft.refl hm h2)⟩
theorem evL_spec {D : Nat → Prop} {ρ : Nm} {ev : Operand → Option Value} {a : Act} (h : EvOK D ρ ev a) : ∀ {xs : List Operand} {vs : List Value}, evL ev xs = some vs → xs.map a.eval = vs.map (ren ρ) ∧ ∀ u ∈ vs, Fit D u
  | [], vs, e => by
    simp only [evL, Option.some.injEq] at e
    subst e
    exact ⟨rfl, fun _ h => by cases h⟩
  | x :: xs, vs, e => by
    simp only [evL] at e
    split at e
    · rename_i v hv
      split at e
      · rename_i us hus
        simp only [Option.some.injEq] at e
        subst e
        obtain ⟨h1, h2⟩ := evL_spec h hus
        exact ⟨by simp [(h x v hv).1, h1], fun u hu => by
          rcases List.mem_cons.1 hu with rfl | hu
          · exact (h x _ hv).2
          · exact h2 u hu⟩
      · cases e
    · cases e

theorem sem_real {ev : Operand → Option Value} {o : Oper} (hr : allReal ev o = true) {D : Nat → Prop} {ρ : Nm} {a : Act} (h : EvOK D ρ ev a) : execOp a.eval o = semOf ev o := by
  simp only [allReal, Bool.and_eq_true, Bool.not_eq_true'] at hr
  refine execOp_congr o (fun cs b e => by rw [e] at hr; simp [isSel] at hr) fun x hx => ?_
  have h1 := List.all_eq_true.1 hr.2 x (by simpa using hx)
  unfold realO at h1
  split at h1
  · rename_i v hv
    rw [(h x v hv).1, ren_real h1, hv]; rfl
  · cases h1
theorem plainOp_S {o : Oper} {ev : Operand → Option Value} {m : Mem} {nx : Nat} {ts : Ts} {v : Value} (h : plainOp P o ev = some v) : OpS P A o ev m nx ts ts v [] nx := by
  unfold plainOp at h
  cases hr : allReal ev o <;> simp only [hr, cond] at h
  · cases h
  · split at h
    · rename_i u hu
      cases hv : real u <;> simp only [hv, cond] at h
      · cases h
      · simp only [Option.some.injEq] at h
        subst h
        exact OpS.val fun D ρ a w he hm => ⟨by rw [sem_real hr he, ren_real hv]; exact pureRun_run w _ _ hu, Fit.real hv⟩
    · cases h

theorem run_bind_ok {α β : Type} {s : Sem α} {f : α → Sem β} {w w' : World} {x : α} (h : s.run P w = .ok x w') : (s >>= f).run P w = (f x).run P w' := by
  rw [Sem.run_bind, h]; rfl
theorem info_size {T : TypeId} {i : TypeInfo} (h : P.info? T = some i) (w : World) : (sizeOf T).run P w = .ok i.size w := by
  simp [sizeOf, typeInfo, program, h, Sem.run, pure, Bind.bind, Sem.bind]
theorem loadA_run {D : Nat → Prop} {ρ : Nm} {m : Mem} {w : World} {T : TypeId} {p v : Value} (hm : MemOK P A D ρ m w) (h : loadA P m T p = some v) :
    ∃ a, p = .pointer (some a) ∧ (loadVar T (renA ρ a)).run P w = .ok (ren ρ v) w ∧ Fit D v ∧ notTuple v = true := by
  unfold loadA at h
  split at h
  · rename_i id off k
    split at h
    · rename_i cs U hid
      obtain ⟨U, rw⟩ := U
      refine ⟨_, rfl, ?_⟩
      have hl := hm.lies hid
      have hf := hm.fit hid
      simp only [renA]
      split at h
      · rename_i hagg
        split at h
        · rename_i n hn
          cases hb : Nat.ble (off + n) cs.length <;> simp only [hb, cond] at h
          · cases h
          · simp only [Option.some.injEq] at h
            subst h
            have hb := Nat.le_of_ble_eq_true hb
            refine ⟨?_, Fit0.agg fun v hv => hf v (List.mem_of_mem_drop (List.mem_of_mem_take hv)), rfl⟩
            have h1 := pureRun_run w _ _ hagg
            have h2 := pureRun_run w _ _ hn
            unfold loadVar
            rw [run_bind_ok h1]
            simp only [if_true]
            rw [run_bind_ok h2]
            have hlen : ((cut cs off n).map (ren0 ρ)).length = n := by simp [cut]; omega
            have h3 : (loadCells ⟨(ρ id).1, off, none⟩ n).run P w = .ok ((cut cs off n).map (ren0 ρ)).toArray w := by
              have := run_loadCells_list (P := P) w ⟨(ρ id).1, off, none⟩ ((cut cs off n).map (ren0 ρ)) (fun j u hu => by
                rw [Addr.add_mid]
                rw [List.getElem?_map] at hu
                cases hc : (cut cs off n)[j]? with
                | none => rw [hc] at hu; cases hu
                | some x =>
                  rw [hc] at hu
                  simp only [Option.map_some, Option.some.injEq] at hu
                  subst hu
                  refine hl.cell ?_
                  unfold cut at hc
                  rw [List.getElem?_take] at hc
                  split at hc
                  · rw [List.getElem?_drop] at hc; exact hc
                  · cases hc)
              rwa [hlen] at this
            rw [run_bind_ok h3]
            simp [ren, ren1, Sem.run, pure]
        · cases h
      · rename_i hagg
        split at h
        · rename_i u hu
          cases hb : scal u <;> simp only [hb, cond] at h
          · cases h
          · simp only [Option.some.injEq] at h
            subst h
            refine ⟨?_, (hf u (List.mem_of_getElem? hu)).scal hb, by cases u <;> simp_all [scal, notTuple]⟩
            have h1 := pureRun_run w _ _ hagg
            unfold loadVar
            rw [run_bind_ok h1]
            simp only [Bool.false_eq_true, if_false]
            rw [ren_scal hb]
            simp [load, Sem.run, hl.cell hu]
        · cases h
      · cases h
    · cases h
  · cases h
theorem oper_val {o : Oper} {a : Act} {w w' : World} {K : Act → World → Prop} {Q : Exit → Act → World → Prop} {v : Value} (h : (execOp a.eval o).run P w = .ok (.value v) w') (hk : K (a.put o.dst v) w') : o.wp P a w K Q := by
  unfold Oper.wp; rw [h]; exact hk
theorem move_S {o : Oper} {x : Operand} (ho : o.op = .move x ∨ o.op = .assign x) {ev : Operand → Option Value} {m : Mem} {nx : Nat} {ts : Ts} {v : Value} (h : ev x = some v) : OpS P A o ev m nx ts ts v [] nx :=
  OpS.val fun D ρ a w he hm => by
    obtain ⟨h1, h2⟩ := he x v h
    refine ⟨?_, h2⟩
    rcases ho with ho | ho <;> (simp only [execOp, ho]; rw [h1]; rfl)
theorem pick_S {o : Oper} {c x y : Operand} (ho : o.op = .pick c x y) {ev : Operand → Option Value} {m : Mem} {nx : Nat} {ts : Ts} {t : Bool} {vx vy : Value} (hc : ev c = some (.bool t)) (hx : ev x = some vx) (hy : ev y = some vy) {v : Value} (hv : v = if t then vx else vy) : OpS P A o ev m nx ts ts v [] nx :=
  OpS.val fun D ρ a w he hm => by
    subst hv
    refine ⟨?_, by cases t; exact (he y vy hy).2; exact (he x vx hx).2⟩
    simp only [execOp, ho]
    rw [(he c _ hc).1, (he x _ hx).1, (he y _ hy).1]
    cases t <;> rfl
theorem info_zero {T : TypeId} {i : TypeInfo} {z : Value} (h : P.info? T = some i) (hz : i.zero = some z) (w : World) : (zeroValue T).run P w = .ok z w := by
  simp [zeroValue, typeInfo, program, h, hz, Sem.run, pure, Bind.bind, Sem.bind]
theorem toArray_map (f : Value → Value) (v : Value) (h : ∀ x ∈ v.cells.toList, f x = x) : (v.cells.toList.map f).toArray = v.cells := by
  have : v.cells.toList.map f = v.cells.toList := by rw [List.map_congr_left (g := id) h, List.map_id]
  rw [this]
theorem ptr_fit (n o k : Nat) : Fit (fun i => i = n) (.pointer (some ⟨n, o, some k⟩)) := fun ρ1 ρ2 h => by
  have := h n rfl
  simp [ren, ren1, ren0, renS, renA, this]
theorem alloc_S {o : Oper} {T : TypeId} (ho : o.op = .alloc T) {ev : Operand → Option Value} {m : Mem} {nx : Nat} {ts : Ts} {i : TypeInfo} {z : Value} (hi : P.info? T = some i) (hz : i.zero = some z) (hr : z.cells.toList.all real0 = true) :
    OpS P A o ev m nx ts ts (.pointer (some ⟨nx, 0, some 0⟩)) [(nx, some (z.cells.toList, T, false))] (nx + 1) :=
  ⟨Nat.le_succ _, fun e he => Or.inr (by simp only [List.mem_singleton] at he; subst he; exact ⟨Nat.le_refl _, Nat.lt_succ_self _⟩), Sound.refl fun D ρ a w K Q he hm hd hk => by
    have hz' : ∀ x ∈ z.cells.toList, real0 x = true := List.all_eq_true.1 hr
    have ha := Aft.alloc (T := T) (nx := nx) hm (fun i hi e => hd i hi ⟨by omega, by omega⟩) (fun v hv => (fun ρ1 ρ2 _ => by rw [ren0_real (hz' v hv), ren0_real (hz' v hv)]) : ∀ v ∈ z.cells.toList, Fit0 D v) 0 #[] (r := false) (fun h => by cases h) (ptr_fit nx 0 0)
    have := hk _ _ ha
    rw [toArray_map _ z (fun x hx => ren0_real (hz' x hx)), Array.append_empty] at this
    refine oper_val ?_ this
    simp only [execOp, ho]
    show ((Instr.alloc T true (.tuple #[])) >>= fun r => pure (Next.value r)).run P w = _
    have h1 : (Instr.alloc T true (.tuple #[])).run P w = .ok (.pointer (some ⟨w.heap.size, 0, none⟩)) (w.alloc (.cells z.cells T)) := by
      unfold Instr.alloc
      rw [run_bind_ok (info_zero hi hz w)]
      rfl
    rw [run_bind_ok h1]
    simp [ren, ren1, ren0, renS, renA, upd_self, Sem.run, pure]⟩
theorem box_S {o : Oper} {T : TypeId} {x : Operand} (ho : o.op = .box T x) {ev : Operand → Option Value} {m : Mem} {nx : Nat} {ts : Ts} {v : Value} (hx : ev x = some v) (hn : notTuple v = true) :
    OpS P A o ev m nx ts ts (.pointer (some ⟨nx, 0, some 0⟩)) [(nx, some (v.cells.toList, T, false))] (nx + 1) :=
  ⟨Nat.le_succ _, fun e he => Or.inr (by simp only [List.mem_singleton] at he; subst he; exact ⟨Nat.le_refl _, Nat.lt_succ_self _⟩), Sound.refl fun D ρ a w K Q he hm hd hk => by
    obtain ⟨h1, h2⟩ := he x v hx
    have ha := Aft.alloc (T := T) (nx := nx) hm (fun i hi e => hd i hi ⟨by omega, by omega⟩) (h2.cells hn) 0 #[] (r := false) (fun h => by cases h) (ptr_fit nx 0 0)
    rw [Array.append_empty] at ha
    refine oper_val ?_ (hk _ _ ha)
    simp only [execOp, ho]
    rw [h1]
    show ((Instr.box T (ren ρ v)) >>= fun r => pure (Next.value r)).run P w = _
    have h3 : (Instr.box T (ren ρ v)).run P w = .ok (.pointer (some ⟨w.heap.size, 0, none⟩)) (w.alloc (.cells (v.cells.toList.map (ren0 ρ)).toArray T)) := by
      rw [← cells_ren hn]; rfl
    rw [run_bind_ok h3]
    simp [ren, ren1, ren0, renS, renA, upd_self, Sem.run, pure]⟩
theorem load_S {o : Oper} {T : TypeId} {x : Operand} (ho : o.op = .load T x) {ev : Operand → Option Value} {m : Mem} {nx : Nat} {ts : Ts} {p v : Value} (hx : ev x = some p) (h : loadA P m T p = some v) : OpS P A o ev m nx ts ts v [] nx :=
  OpS.val fun D ρ a w he hm => by
    obtain ⟨ad, rfl, h1, h2, _⟩ := loadA_run hm h
    refine ⟨?_, h2⟩
    simp only [execOp, ho]
    rw [(he x _ hx).1]
    show ((Instr.loadAt T (.pointer (some (renA ρ ad)))) >>= fun r => pure (Next.value r)).run P w = _
    have h3 : (Instr.loadAt T (.pointer (some (renA ρ ad)))).run P w = .ok (ren ρ v) w := h1
    rw [run_bind_ok h3]
    rfl
theorem store_S {o : Oper} {T : TypeId} {x y : Operand} (ho : o.op = .store T x y) {ev : Operand → Option Value} {m : Mem} {nx : Nat} {ts : Ts} {p v : Value} {e : Nat × Option Blk} (hx : ev x = some p) (hy : ev y = some v) (h : storeA P m T v p = some e) : OpS P A o ev m nx ts ts undef [e] nx := by
  unfold storeA at h
  split at h
  · rename_i id off k
    split at h
    · rename_i cs U rw' hid
      split at h
      · rename_i n hn
        cases hb : (Nat.beq v.cells.size n && Nat.ble (off + n) cs.length && v.cells.toList.all scal && notTuple v) <;> simp only [hb, cond] at h
        · cases h
        · simp only [Option.some.injEq] at h
          subst h
          simp only [Bool.and_eq_true] at hb
          obtain ⟨⟨⟨b1, b2⟩, b3⟩, b4⟩ := hb
          have b1 := Nat.eq_of_beq_eq_true b1
          have b2 := Nat.le_of_ble_eq_true b2
          refine ⟨Nat.le_refl _, fun e he => Or.inl (by simp only [List.mem_singleton] at he; subst he; simp [hid]), Sound.refl fun D ρ a w K Q he hm hd hk => ?_⟩
          obtain ⟨h1, h2⟩ := he y v hy
          have hl := hm.lies hid
          have ha := Aft.store (nx := nx) hm hid (o := off) (vs := v.cells.toList) (by simp; omega) (h2.cells b4)
          have hk' := hk _ _ ha
          unfold Oper.wp
          simp only [execOp, ho]
          rw [(he x _ hx).1, h1]
          have hst : (storeCells ⟨(ρ id).1, off, none⟩ (v.cells.toList.map (ren0 ρ)) 0).run P w = .ok () (w.setCells (ρ id).1 (off + 0) (v.cells.toList.map (ren0 ρ))) :=
            run_storeCells_cells (P := P) (ρ id).1 off _ 0 w (fun j hj => by
              have hj' : off + j < cs.length := by simp at hj; omega
              rw [Nat.add_zero, hl.cell (List.getElem?_eq_getElem hj')]; rfl)
              (fun j hj => by
                have hj' : off + j < cs.length := by simp at hj; omega
                rw [Nat.add_zero]; exact hl.frozen hj')
              (fun u hu => by
                obtain ⟨z, hz, rfl⟩ := List.mem_map.1 hu
                exact oneCell_ren0 (List.all_eq_true.1 b3 z hz))
          rw [Nat.add_zero] at hst
          have hcl : (ren ρ v).cells.toList = v.cells.toList.map (ren0 ρ) := by rw [cells_ren b4]
          have hsz : (ren ρ v).cells.size = n := by rw [cells_ren b4]; simp; exact b1
          have h3 : (Instr.storeAt T (ren ρ (.pointer (some ⟨id, off, some k⟩))) (ren ρ v)).run P w = .ok () (w.setCells (ρ id).1 off (v.cells.toList.map (ren0 ρ))) := by
            show (storeVar T ⟨(ρ id).1, off, none⟩ (ren ρ v)).run P w = _
            unfold storeVar
            rw [run_bind_ok (pureRun_run w _ _ hn)]
            rw [if_neg (by rw [hsz]; simp)]
            rw [hcl]
            exact hst
          show o.upon P a K Q (((Instr.storeAt T (ren ρ (.pointer (some ⟨id, off, some k⟩))) (ren ρ v)) >>= fun _ => pure Next.skip).run P w)
          rw [run_bind_ok h3]
          exact hk'
      · cases h
    · cases h
  · cases h
theorem nilCheck_S {o : Oper} {x : Operand} (ho : o.op = .nilCheck x) {ev : Operand → Option Value} {m : Mem} {nx : Nat} {ts : Ts} {ad : Addr} (h : ev x = some (.pointer (some ad))) : OpS P A o ev m nx ts ts (.pointer (some ad)) [] nx :=
  OpS.val fun D ρ a w he hm => by
    obtain ⟨h1, h2⟩ := he x _ h
    refine ⟨?_, h2⟩
    simp only [execOp, ho]
    rw [h1]
    rfl
theorem fieldAt_run {T : TypeId} {f : Nat} {fs : Array Field} {fd : Field} {i : TypeInfo} (h1 : structOf P T = some fs) (h2 : fs[f]? = some fd) (h3 : P.info? fd.type = some i) (h4 : Nat.beq i.size 0 = false) (b o : Nat) (w : World) :
    (Instr.fieldAt T (.pointer (some ⟨b, o, none⟩)) f).run P w = .ok (.pointer (some ⟨b, o + fd.offset, none⟩)) w := by
  have hu : P.underlying T = some (.struct fs) := by
    unfold structOf at h1
    split at h1
    · rename_i gs hg
      simp only [Option.some.injEq] at h1
      rw [hg, h1]
    · cases h1
  have h4 : ¬ i.size = 0 := Nat.ne_of_beq_eq_false h4
  unfold Instr.fieldAt
  rw [run_bind_ok (run_underlying hu w)]
  simp only [h2]
  show ((pure (⟨b, o, none⟩ : Addr) : Sem Addr) >>= fun a => fieldPlace a fd >>= fun p => pure (Value.pointer (some p))).run P w = _
  have h5 : (fieldPlace ⟨b, o, none⟩ fd).run P w = .ok ⟨b, o + fd.offset, none⟩ w := by
    unfold fieldPlace
    rw [run_bind_ok (info_size h3 w), if_neg h4, Addr.add_mid]
    rfl
  rw [run_bind_ok (show ((pure (⟨b, o, none⟩ : Addr) : Sem Addr)).run P w = .ok ⟨b, o, none⟩ w from rfl), run_bind_ok h5]
  rfl
theorem fieldAddr_S {o : Oper} {T : TypeId} {x : Operand} {f : Nat} (ho : o.op = .fieldAddr T x f) {ev : Operand → Option Value} {m : Mem} {nx : Nat} {ts : Ts} {id off : Nat} {k : Nat} (h : ev x = some (.pointer (some ⟨id, off, some k⟩)))
    {fs : Array Field} {fd : Field} {i : TypeInfo} (h1 : structOf P T = some fs) (h2 : fs[f]? = some fd) (h3 : P.info? fd.type = some i) (h4 : Nat.beq i.size 0 = false) : OpS P A o ev m nx ts ts (.pointer (some ⟨id, off + fd.offset, some 0⟩)) [] nx :=
  OpS.val fun D ρ a w he hm => by
    obtain ⟨e1, e2⟩ := he x _ h
    refine ⟨?_, fun ρ1 ρ2 k' => ?_⟩
    · simp only [execOp, ho]
      rw [e1]
      show ((Instr.fieldAt T (.pointer (some ⟨(ρ id).1, off, none⟩)) f) >>= fun r => pure (Next.value r)).run P w = _
      rw [run_bind_ok (fieldAt_run h1 h2 h3 h4 _ _ w)]
      rfl
    · have := e2 ρ1 ρ2 k'
      simp only [ren, ren1, ren0, renS, renA, Value.pointer.injEq, Option.some.injEq, Addr.mk.injEq] at this ⊢
      simp [this.1]
theorem fieldAddr_R {o : Oper} {T : TypeId} {x : Operand} {f : Nat} (ho : o.op = .fieldAddr T x f) {ev : Operand → Option Value} {m : Mem} {nx : Nat} {ts : Ts} {b off : Nat} (h : ev x = some (.pointer (some ⟨b, off, none⟩)))
    {fs : Array Field} {fd : Field} {i : TypeInfo} (h1 : structOf P T = some fs) (h2 : fs[f]? = some fd) (h3 : P.info? fd.type = some i) (h4 : Nat.beq i.size 0 = false) : OpS P A o ev m nx ts ts (.pointer (some ⟨b, off + fd.offset, none⟩)) [] nx :=
  OpS.val fun D ρ a w he hm => by
    obtain ⟨e1, e2⟩ := he x _ h
    refine ⟨?_, Fit.real rfl⟩
    simp only [execOp, ho]
    rw [e1]
    show ((Instr.fieldAt T (.pointer (some ⟨b, off, none⟩)) f) >>= fun r => pure (Next.value r)).run P w = _
    rw [run_bind_ok (fieldAt_run h1 h2 h3 h4 _ _ w)]
    rfl
theorem extract_S {o : Oper} {x : Operand} {i : Nat} (ho : o.op = .extract x i) {ev : Operand → Option Value} {m : Mem} {nx : Nat} {ts : Ts} {vs : Array Value} {v : Value} (h : ev x = some (.tuple vs)) (hv : vs[i]? = some v) (hn : notTuple v = true) : OpS P A o ev m nx ts ts v [] nx :=
  OpS.val fun D ρ a w he hm => by
    obtain ⟨e1, e2⟩ := he x _ h
    refine ⟨?_, e2.part hv hn⟩
    simp only [execOp, ho]
    rw [e1]
    have h1 : ((vs.toList.map (ren1 ρ)).toArray)[i]? = some (ren ρ v) := by
      rw [ren_notTuple hn]; simp [hv]
    simp only [ren, Instr.extract, h1]
    rfl
def setAll (off : Nat) : List (Value × Nat) → Array Value → Array Value
  | [], cs => cs
  | (c, j) :: l, cs => setAll off l (cs.setIfInBounds (off + j) c)
theorem setAll_eq (off : Nat) : ∀ (l : List (Value × Nat)) (cs : Array Value), l.foldl (fun cs (x : Value × Nat) => cs.setIfInBounds (off + x.2) x.1) cs = setAll off l cs
  | [], _ => rfl
  | (c, j) :: l, cs => setAll_eq off l _
theorem setAll_map (off : Nat) (f : Value → Value) : ∀ (l : List (Value × Nat)) (cs : Array Value), setAll off (l.map fun x => (f x.1, x.2)) (cs.toList.map f).toArray = ((setAll off l cs).toList.map f).toArray
  | [], _ => rfl
  | (c, j) :: l, cs => by
    show setAll off (l.map fun x => (f x.1, x.2)) ((cs.toList.map f).toArray.setIfInBounds (off + j) (f c)) = ((setAll off l (cs.setIfInBounds (off + j) c)).toList.map f).toArray
    rw [← setAll_map off f l]
    congr 1
    simp
theorem fill_map {place : Nat → Option (Nat × Nat)} {ρ : Nm} : ∀ (ps : List (Nat × Value)) (cs out : Array Value), (∀ p ∈ ps, notTuple p.2 = true) → Instr.fill place cs ps = some out →
    Instr.fill place (cs.toList.map (ren0 ρ)).toArray (ps.map fun p => (p.1, ren ρ p.2)) = some (out.toList.map (ren0 ρ)).toArray
  | [], cs, out, _, h => by
    simp only [Instr.fill, Option.some.injEq] at h
    subst h; rfl
  | (i, v) :: ps, cs, out, hn, h => by
    simp only [Instr.fill, List.map_cons] at h ⊢
    cases hp : place i with
    | none => rw [hp] at h; cases h
    | some q =>
      obtain ⟨off, size⟩ := q
      rw [hp] at h
      simp only at h ⊢
      have hv : (ren ρ v).cells = (v.cells.toList.map (ren0 ρ)).toArray := cells_ren (hn (i, v) (by simp))
      have hs : (ren ρ v).cells.size = v.cells.size := by rw [hv]; simp
      have hcs : (cs.toList.map (ren0 ρ)).toArray.size = cs.size := by simp
      rw [hs, hcs]
      split at h
      · cases h
      · rename_i hc
        rw [if_neg hc]
        have := fill_map (ρ := ρ) ps _ out (fun p hp => hn p (by simp [hp])) h
        rw [← this]
        congr 1
        rw [← Array.foldl_toList, ← Array.foldl_toList]
        have e1 := setAll_eq off v.cells.zipIdx.toList cs
        have e2 := setAll_eq off (ren ρ v).cells.zipIdx.toList (cs.toList.map (ren0 ρ)).toArray
        have e3 := setAll_map off (ren0 ρ) v.cells.zipIdx.toList cs
        have e4 : (ren ρ v).cells.zipIdx.toList = v.cells.zipIdx.toList.map fun x => (ren0 ρ x.1, x.2) := by
          rw [hv]
          simp [Array.toList_zipIdx, List.zipIdx_map, Prod.map]
        rw [e4] at e2 ⊢
        exact (e2.trans e3).trans (by rw [← e1])
theorem built_map {T : TypeId} {ρ : Nm} {ps : List (Nat × Value)} {out : Array Value} (hn : ∀ p ∈ ps, notTuple p.2 = true) (hz : zeroReal P T = true) (h : P.built T ps = some out) :
    P.built T (ps.map fun p => (p.1, ren ρ p.2)) = some (out.toList.map (ren0 ρ)).toArray := by
  unfold Program.built at h ⊢
  unfold zeroReal at hz
  cases hi : P.info? T with
  | none => rw [hi] at h; cases h
  | some i =>
    rw [hi] at h hz
    cases hu : P.underlying T with
    | none => rw [hu] at h; cases h
    | some d =>
      rw [hu] at h
      cases hzz : i.zero with
      | none => cases d <;> simp [hzz] at h
      | some z =>
        simp only [hzz] at hz
        have hm : (z.cells.toList.map (ren0 ρ)).toArray = z.cells := toArray_map _ z fun x hx => ren0_real (List.all_eq_true.1 hz x hx)
        cases d <;> try (cases h; done)
        case array n e =>
          simp only [hzz] at h ⊢
          cases he : P.info? e with
          | none => rw [he] at h; cases h
          | some ie =>
            rw [he] at h
            have := fill_map (ρ := ρ) ps _ out hn h
            rwa [hm] at this
        case struct fs =>
          simp only [hzz] at h ⊢
          split at h
          · rename_i places hp
            simp only [Option.some.injEq] at *
            subst_vars
            have := fill_map (ρ := ρ) ps _ out hn h
            rw [hm] at this
            exact this
          · cases h
theorem zip_fst {α β : Type} : ∀ (a : List α) (b : List β) (f : β → β), (a.zip b).map (fun p => (p.1, f p.2)) = a.zip (b.map f)
  | [], _, _ => rfl
  | _ :: _, [], _ => rfl
  | x :: a, y :: b, f => by simp [zip_fst a b f]
theorem build_S {o : Oper} {T : TypeId} {ps : Array (Nat × Operand)} (ho : o.op = .build T ps) {ev : Operand → Option Value} {m : Mem} {nx : Nat} {ts : Ts} {v : Value} (h : buildA P T ev ps.toList = some v) : OpS P A o ev m nx ts ts v [] nx := by
  unfold buildA at h
  split at h
  · rename_i vs hvs
    cases hb : (vs.all notTuple && zeroReal P T) <;> simp only [hb, cond] at h
    · cases h
    · split at h
      · rename_i cells hc
        simp only [Option.some.injEq] at h
        subst h
        simp only [Bool.and_eq_true] at hb
        have hn : ∀ p ∈ (ps.toList.map (·.1)).zip vs, notTuple p.2 = true := fun p hp => List.all_eq_true.1 hb.1 p.2 (List.of_mem_zip hp).2
        refine OpS.val fun D ρ a w he hm => ?_
        obtain ⟨e1, e2⟩ := evL_spec he hvs
        have key : ∀ ρ : Nm, P.built T ((ps.toList.map (·.1)).zip (vs.map (ren ρ))) = some (cells.toList.map (ren0 ρ)).toArray := fun ρ => by
          rw [← zip_fst]; exact built_map hn hb.2 hc
        refine ⟨?_, fun ρ1 ρ2 k => ?_⟩
        · simp only [execOp, ho]
          have hp : (ps.map fun (i, x) => (i, a.eval x)).toList = (ps.toList.map (·.1)).zip (vs.map (ren ρ)) := by
            rw [← e1, Array.toList_map]
            generalize ps.toList = l
            induction l with
            | nil => rfl
            | cons x l ih => simp only [List.map_cons, List.zip_cons_cons]; rw [ih]
          have h1 := run_build (P := P) w T (ps.map fun (i, x) => (i, a.eval x)) _ (by rw [hp]; exact key ρ)
          rw [run_bind_ok h1]
          rfl
        · have h1 := key ρ1
          rw [show vs.map (ren ρ1) = vs.map (ren ρ2) from List.map_congr_left fun u hu => e2 u hu ρ1 ρ2 k, key ρ2] at h1
          simp only [ren, ren1]
          simp only [Option.some.injEq] at h1
          rw [h1]
      · cases h
  · cases h
end Rx
end Go.Proofs.YtilfcikhipadpaaGreatDoor
end

section
/- A run reckoned by the kernel: comparisons of structs and pointers; slices of the run's own. No program. -/
set_option linter.unusedVariables false
set_option linter.unusedSimpArgs false
namespace Go.Proofs.YtilfcikhipadpaaGreatDoor
open Go.RowKit Go.Lib
namespace Rx
variable {P : Program} {A : Amb}

/-! ### comparisons -/
theorem part_run {ρ : Nm} {t : TypeId} {cs : List Value} {off : Nat} {v : Value} (w : World) (h : partA P t cs off = some v) : (part t (cs.map (ren0 ρ)).toArray off).run P w = .ok (ren ρ v) w ∧ notTuple v = true := by
  unfold partA at h
  unfold part
  split at h
  · rename_i ha
    split at h
    · rename_i n hn
      simp only [Option.some.injEq] at h
      subst h
      rw [run_bind_ok (pureRun_run w _ _ ha)]
      simp only [if_true]
      rw [run_bind_ok (pureRun_run w _ _ hn)]
      refine ⟨?_, rfl⟩
      simp [ren, ren1, cut, Sem.run, pure, List.map_take, List.map_drop]
    · cases h
  · rename_i ha
    split at h
    · rename_i u hu
      cases hs : scal u <;> simp only [hs, cond] at h
      · cases h
      · simp only [Option.some.injEq] at h
        subst h
        rw [run_bind_ok (pureRun_run w _ _ ha)]
        have : ((cs.map (ren0 ρ)).toArray)[off]? = some (ren ρ u) := by rw [ren_scal hs]; simp [hu]
        simp only [Bool.false_eq_true, if_false, this]
        exact ⟨rfl, by cases u <;> simp_all [scal, notTuple]⟩
    · cases h
  · cases h
theorem eqS_run {ρ : Nm} {t : TypeId} {d : TypeDesc} (hu : P.underlying t = some d) {x y : Value} {b : Bool} (h : eqS d x y = some b) (n : Nat) (w : World) : (Op.equalIn (n + 1) t (ren ρ x) (ren ρ y)).run P w = .ok b w := by
  unfold eqS at h
  split at h
  · simp only [Option.some.injEq] at h; subst h
    simp [Op.equalIn, run_underlying hu, ren, ren1, ren0, renS]
  · rename_i k a k' b'
    cases hk : decide (k = k') <;> simp only [hk, cond] at h
    · cases h
    · simp only [Option.some.injEq] at h; subst h
      have : k = k' := of_decide_eq_true hk
      subst this
      simp [Op.equalIn, run_underlying hu, ren, ren1, ren0, renS]
  · simp only [Option.some.injEq] at h; subst h
    simp [Op.equalIn, run_underlying hu, ren, ren1, ren0, renS, beq_toListBytes]
  · rename_i e b'
    simp only [Option.some.injEq] at h; subst h
    cases b' <;> simp [Op.equalIn, run_underlying hu, ren, ren1, ren0, renS]
  · simp only [Option.some.injEq] at h; subst h
    simp [Op.equalIn, run_underlying hu, ren, ren1, ren0, renS]
  · rename_i e n' c b' n2 c2
    simp only [Option.some.injEq] at h; subst h
    cases b' <;> simp [Op.equalIn, run_underlying hu, ren, ren1, ren0, renS]
  · simp only [Option.some.injEq] at h; subst h
    simp [Op.equalIn, run_underlying hu, ren, ren1, ren0, renS]
  · simp only [Option.some.injEq] at h; subst h
    simp [Op.equalIn, run_underlying hu, ren, ren1, ren0, renS]
  · simp only [Option.some.injEq] at h; subst h
    simp [Op.equalIn, run_underlying hu, ren, ren1, ren0, renS]
  · simp only [Option.some.injEq] at h; subst h
    simp [Op.equalIn, run_underlying hu, ren, ren1, ren0, renS]
  · cases h
theorem eqF_run {ρ : Nm} {eqr : TypeId → Value → Value → Option Bool} {d : Nat} (ih : ∀ t x y b, eqr t x y = some b → ∀ w : World, (Op.equalIn d t (ren ρ x) (ren ρ y)).run P w = .ok b w) (xs ys : List Value) (w : World) : ∀ (fs : List Field) (b : Bool), eqF P eqr xs ys fs = some b →
    (Op.eqFields d (xs.map (ren0 ρ)).toArray (ys.map (ren0 ρ)).toArray fs).run P w = .ok b w
  | [], b, h => by
    simp only [eqF, Option.some.injEq] at h
    subst h; rfl
  | f :: fs, b, h => by
    simp only [eqF] at h
    cases hn : (f.name == "_") <;> simp only [hn, cond] at h
    · split at h
      · rename_i a ha
        split at h
        · rename_i c hc
          split at h
          · rename_i r hr
            split at h
            · rename_i q hq
              simp only [Option.some.injEq] at h
              subst h
              unfold Op.eqFields
              rw [if_pos (by simpa using hn)]
              rw [run_bind_ok (part_run w ha).1, run_bind_ok (part_run w hc).1, run_bind_ok (ih _ _ _ _ hr w)]
              cases r
              · rfl
              · simp only [Bool.not_true, Bool.false_eq_true, if_false, Bool.true_and]
                exact eqF_run ih xs ys w fs q hq
            · cases h
          · cases h
        · cases h
      · cases h
    · cases h
theorem eqA_run {ρ : Nm} : ∀ (n : Nat) (t : TypeId) (x y : Value) (b : Bool), eqA P n t x y = some b → ∀ (d : Nat), n ≤ d → ∀ w : World, (Op.equalIn d t (ren ρ x) (ren ρ y)).run P w = .ok b w
  | 0, _, _, _, _, h => by cases h
  | n + 1, t, x, y, b, h => by
    intro d hd w
    obtain ⟨d, rfl⟩ : ∃ e, d = e + 1 := ⟨d - 1, by omega⟩
    simp only [eqA] at h
    split at h
    · rename_i fs hu
      split at h
      · rename_i xs
        split at h
        · rename_i ys
          cases hp : P.stoodInHeld t <;> simp only [hp, cond] at h
          · have hf : P.fieldsOf t = fs := by unfold Program.fieldsOf; rw [hu]
            simp only [ren, ren1]
            rw [run_equalIn_struct w d t _ _ (by rw [hf]; exact hu) hp, hf]
            exact eqF_run (fun t x y b h w => eqA_run n t x y b h d (by omega) w) _ _ w _ b h
          · cases h
        · cases h
      · cases h
    · rename_i dd hne hu
      exact eqS_run hu h d w
    · cases h
theorem ren_slice (ρ : Nm) (a : Option Addr) (n c : Nat) : ∃ a' c', ren ρ (.slice a n c) = .slice a' n c' := by
  cases a <;> exact ⟨_, _, rfl⟩
theorem ren_pointer (ρ : Nm) (a : Option Addr) : ∃ a', ren ρ (.pointer a) = .pointer a' := by
  cases a <;> exact ⟨_, rfl⟩
theorem cmp_S {o : Oper} {op : BinOp} {T yT : TypeId} {x y : Operand} (ho : o.op = .binOp op T x y yT) {ev : Operand → Option Value} {m : Mem} {nx : Nat} {ts : Ts} {a b v : Value} (hx : ev x = some a) (hy : ev y = some b) (h : cmpA P op T a b = some v) : OpS P A o ev m nx ts ts v [] nx := by
  unfold cmpA at h
  split at h
  · rename_i e he
    cases hg : (notNum a && guardA P T a) <;> simp only [hg, cond] at h
    · cases h
    · split at h
      · rename_i r hr
        simp only [Option.some.injEq] at h
        subst h
        simp only [Bool.and_eq_true] at hg
        refine OpS.val fun D ρ ac w he' hm => ⟨?_, Fit.real rfl⟩
        have h1 := eqA_run (ρ := ρ) 10 T a b r hr Op.maxDepth (by decide) w
        have h2 : (eqGuard op T x y (ren ρ a) (ren ρ b)).run P w = .ok () w := by
          have hgb := hg.2
          unfold guardA at hgb
          split at hgb
          · rename_i cs
            simp only [ren, ren1]
            cases b <;> first
              | (simp only [ren, ren1]; exact run_eqGuard_agg w op T x y _ _ (by simpa using hgb))
              | (simp only [ren, ren1, ren0, renS]; cases op <;> rfl)
              | skip
            case pointer q => cases q <;> (simp only [ren, ren1, ren0, renS]; cases op <;> rfl)
            case slice q _ _ => cases q <;> (simp only [ren, ren1, ren0, renS]; cases op <;> rfl)
          · cases hgb
          · rename_i hna hnn
            unfold eqGuard
            cases op <;> try rfl
            all_goals
              cases a
              case agg => exact absurd rfl (hna _)
              case nilIface => exact absurd rfl hnn
              case pointer q => obtain ⟨q', e⟩ := ren_pointer ρ q; rw [e]; rfl
              case slice q n c => obtain ⟨q', c', e⟩ := ren_slice ρ q n c; rw [e]; rfl
              all_goals rfl
        have h3 : (binOp op T (ren ρ a) (ren ρ b)).run P w = .ok (.bool (cond e r (!r))) w := by
          have hna := hg.1
          have key : ∀ x' y' : Value, notNum x' = true → binOp .eql T x' y' = (do pure (.bool (← Op.equal T x' y'))) ∧ binOp .neq T x' y' = (do pure (.bool (!(← Op.equal T x' y')))) := fun x' y' hx' => by
            cases x' <;> first
              | (simp [notNum] at hx'; done)
              | (cases y' <;> exact ⟨rfl, rfl⟩)
          have hren : notNum (ren ρ a) = true := by
            cases a
            case pointer q => obtain ⟨q', e⟩ := ren_pointer ρ q; rw [e]; rfl
            case slice q n c => obtain ⟨q', c', e⟩ := ren_slice ρ q n c; rw [e]; rfl
            all_goals exact hna
          obtain ⟨k1, k2⟩ := key _ (ren ρ b) hren
          have h1' : (Op.equal T (ren ρ a) (ren ρ b)).run P w = .ok r w := h1
          unfold isEq at he
          split at he
          · simp only [Option.some.injEq] at he; subst he
            rw [k1, run_bind_ok h1']; rfl
          · simp only [Option.some.injEq] at he; subst he
            rw [k2, run_bind_ok h1']; rfl
          · cases he
        simp only [execOp, ho]
        rw [(he' x _ hx).1, (he' y _ hy).1]
        show (((eqGuard op T x y (ren ρ a) (ren ρ b)) >>= fun _ => binOp op T (ren ρ a) (ren ρ b)) >>= fun r => pure (Next.value r)).run P w = _
        have h4 : ((eqGuard op T x y (ren ρ a) (ren ρ b)) >>= fun _ => binOp op T (ren ρ a) (ren ρ b)).run P w = .ok (.bool (cond e r (!r))) w := by rw [run_bind_ok h2]; exact h3
        rw [run_bind_ok h4]
        rfl
      · cases h
  · cases h
end Rx
end Go.Proofs.YtilfcikhipadpaaGreatDoor
end
