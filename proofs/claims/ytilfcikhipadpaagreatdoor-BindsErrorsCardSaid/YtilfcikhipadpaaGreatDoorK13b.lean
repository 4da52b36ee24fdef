/- Several texts of this claim, one behind the other. -/
import Derived.Test.YtilfcikhipadpaaGreatDoorProg
import Derived.Test.YtilfcikhipadpaaGreatDoorK7b
import Derived.Maps.AppendAt
import Derived.Deep.Upon
import Derived.ProofKit
import Derived.OpenShut
import Derived.SizedLaws
import Derived.Deep.Slices

section
/- Rows of structs (of any kind): a slice of one's own, append. -/
set_option linter.unusedVariables false
set_option linter.unusedSimpArgs false
namespace Go.Proofs.YtilfcikhipadpaaGreatDoor
open Go.RowKit Go.Lib
attribute [local go_sem] Oper.semAt_some

/-- a kind of rows: how many cells, the element's type, the slice's, the zero value, the cells -/
structure RowK (α : Type) where
  k : Nat
  T : TypeId
  S : TypeId
  bytes : Nat
  z : Value
  cells : α → Array Value
  size : ∀ a, (cells a).size = k
  one : ∀ a, ∀ v ∈ (cells a).toList, v.oneCell' = true
  pos : 0 < k
  tS : Tryz.prog.underlying S = some (.slice T)
  info : (Tryz.prog.info? T).map (fun i => (i.zero, i.size, i.bytes)) = some (some z, k, bytes)
  zs : z.cells.size = k
  few : bytes ≤ 1024
namespace RowK
variable {α : Type} (K : RowK α)
theorem parts : ∃ i, Tryz.prog.info? K.T = some i ∧ i.zero = some K.z ∧ i.size = K.k ∧ i.bytes = K.bytes := by
  have h := K.info
  cases hq : Tryz.prog.info? K.T with
  | none => rw [hq] at h; cases h
  | some i =>
    rw [hq] at h
    simp only [Option.map_some, Option.some.injEq, Prod.mk.injEq] at h
    exact ⟨i, rfl, h.1, h.2.1, h.2.2⟩
theorem len (a : α) : (K.cells a).toList.length = K.k := by rw [Array.length_toList]; exact K.size a
/-- the cells of some, one behind the other -/
def all (l : List α) : List Value := l.flatMap fun r => (K.cells r).toList
theorem all_length (l : List α) : (K.all l).length = l.length * K.k := by
  induction l with
  | nil => simp [all]
  | cons a t ih =>
    have e : K.all (a :: t) = (K.cells a).toList ++ K.all t := rfl
    rw [e, List.length_append, K.len, ih, List.length_cons, Nat.add_mul, Nat.one_mul, Nat.add_comm]
theorem all_append (a b : List α) : K.all (a ++ b) = K.all a ++ K.all b := by simp [all]
theorem all_drop (l : List α) (n : Nat) : (K.all l).drop (n * K.k) = K.all (l.drop n) := by
  induction l generalizing n with
  | nil => simp [all]
  | cons a t ih =>
    cases n with
    | zero => simp
    | succ n =>
      have e : K.all (a :: t) = (K.cells a).toList ++ K.all t := rfl
      rw [e, List.drop_append, K.len, List.drop_of_length_le (by rw [K.len, Nat.add_mul]; omega), List.drop_succ_cons, List.nil_append, ← ih n]
      congr 1
      rw [Nat.add_mul, Nat.one_mul]; omega
theorem all_at {l : List α} {j i : Nat} (h : j < l.length) (hi : i < K.k) : (K.all l)[j * K.k + i]? = (K.cells l[j]).toList[i]? := by
  have h1 : (K.all l)[j * K.k + i]? = ((K.all l).drop (j * K.k))[i]? := by rw [List.getElem?_drop]
  rw [h1, all_drop, List.drop_eq_getElem_cons h]
  have e : K.all (l[j] :: l.drop (j + 1)) = (K.cells l[j]).toList ++ K.all (l.drop (j + 1)) := rfl
  rw [e, List.getElem?_append_left (by rw [K.len]; exact hi)]
theorem ones (l : List α) : ∀ v ∈ K.all l, v.oneCell' = true := fun v hv => by
  obtain ⟨r, _, hr⟩ := List.mem_flatMap.1 hv
  exact K.one r v hr

/-- a slice of one's own -/
def Own (W : World) (v : Value) (l : List α) : Prop := W.ownsRow 0 K.T K.k v l.length (K.all l)
variable {K}
theorem Own.nil (W : World) : K.Own W (.slice none 0 0) [] := ⟨by simp [all], Or.inl ⟨rfl, rfl⟩⟩
theorem Own.row {W : World} {v : Value} {l : List α} (h : K.Own W v l) {g : Nat} (k : v.ownBlock = some g) : g < W.heap.size := (World.ownsRow.lt h g k).2
theorem Own.same {W W' : World} {v : Value} {l : List α} (h : K.Own W v l) (k : ∀ g, v.ownBlock = some g → W'.heap[g]? = W.heap[g]?) : K.Own W' v l := by
  refine ⟨h.1, ?_⟩
  rcases h.2 with hn | ⟨g, cap, cur, hv, hb, hg, r⟩
  · exact Or.inl hn
  · exact Or.inr ⟨g, cap, cur, hv, hb, (k g (by rw [hv]; rfl)).trans hg, r⟩
theorem Own.below {W W' : World} {v : Value} {l : List α} (h : K.Own W v l) (k : Below W.heap.size W W') : K.Own W' v l := h.same fun g hg => k.block g (h.row hg)
theorem Own.slice {W : World} {v : Value} {l : List α} (h : K.Own W v l) : ∃ A c, v = .slice A l.length c ∧ l.length ≤ c := by
  rcases h.2 with ⟨h1, h2⟩ | ⟨g, c, cur, h1, _, _, h3, _⟩
  · exact ⟨none, 0, by rw [h1, h2], by rw [h2]; exact Nat.le_refl _⟩
  · exact ⟨_, c, h1, h3⟩
theorem Own.cell {W : World} {v : Value} {l : List α} (h : K.Own W v l) (hn : 0 < l.length) : ∃ g c, v = .slice (some ⟨g, 0, none⟩) l.length c ∧ g < W.heap.size ∧ l.length ≤ c ∧ c ≤ maxLen ∧ ∀ i u, (K.all l)[i]? = some u → W.cell? ⟨g, i, none⟩ = some u := by
  rcases h.2 with ⟨_, h0⟩ | ⟨g, cap, cur, hv, hb, hg, h1, h2, h3, h4⟩
  · omega
  · refine ⟨g, cap, hv, (Array.getElem?_eq_some_iff.1 hg).1, h1, h2, fun i u hu => ?_⟩
    rw [Lib.cell_of_heap hg]
    rw [← h4, List.getElem?_take] at hu
    split at hu
    · simpa using hu
    · cases hu
theorem Own.slot {W : World} {g n c : Nat} {l : List α} (h : K.Own W (.slice (some ⟨g, 0, none⟩) n c) l) {j : Nat} (hj : j < l.length) {r : α} (hr : l[j]? = some r) {i : Nat} {u : Value} (hi : i < K.k) (hu : (K.cells r).toList[i]? = some u) : W.cell? ⟨g, j * K.k + i, none⟩ = some u := by
  obtain ⟨g', c', hv, _, _, _, hc⟩ := h.cell (by omega)
  cases hv
  refine hc _ _ ?_
  rw [K.all_at hj hi, (List.getElem?_eq_some_iff.1 hr).2]
  exact hu

/-- a slice that is read: none, or rows from an address on -/
def Read (K : RowK α) (W : World) (x : Value) (m : List α) : Prop := (x = .slice none 0 0 ∧ m = []) ∨ ∃ a c, x = .slice (some a) m.length c ∧ ∀ j u, (K.all m)[j]? = some u → W.cell? (a.add j) = some u
theorem Read.one {W : World} {vb : Nat} {r : α} (h : Cells W vb (K.cells r) K.T) : K.Read W (.slice (some ⟨vb, 0, none⟩) 1 1) [r] :=
  Or.inr ⟨_, _, rfl, fun j u hu => by
    have e : K.all [r] = (K.cells r).toList := by simp [all]
    rw [e] at hu
    rw [Addr.add_lit, Nat.zero_add, Lib.cell_of_heap h]
    simpa using hu⟩
theorem Read.of {W : World} {v : Value} {l : List α} (h : K.Own W v l) : K.Read W v l := by
  by_cases hl : 0 < l.length
  · obtain ⟨g, c, hv, _, _, _, hc⟩ := h.cell hl
    exact Or.inr ⟨_, c, hv, fun j u hu => by rw [Addr.add_lit, Nat.zero_add]; exact hc j u hu⟩
  · have h0 : l = [] := List.length_eq_zero_iff.1 (by omega)
    subst h0
    rcases h.2 with ⟨h1, _⟩ | ⟨g, c, cur, hv, _⟩
    · exact Or.inl ⟨h1, rfl⟩
    · exact Or.inr ⟨_, c, hv, fun j u hu => by simp [all] at hu⟩

end RowK
end Go.Proofs.YtilfcikhipadpaaGreatDoor
end

section
/- Rows of structs (of any kind) that are read by their index. -/
set_option linter.unusedVariables false
namespace Go.Proofs.YtilfcikhipadpaaGreatDoor
open Go.RowKit Go.Lib
namespace RowK
variable {α : Type} {K : RowK α}
/-- these lie at an address, one behind the other -/
def Has (K : RowK α) (W : World) (A : Option Addr) (l : List α) : Prop :=
  0 < l.length → ∃ g o, A = some (⟨g, o, none⟩ : Addr) ∧ g < W.heap.size ∧ ∀ i (hi : i < l.length) j u, (K.cells l[i]).toList[j]? = some u → W.cell? ⟨g, o + i * K.k + j, none⟩ = some u
theorem Has.below {W W' : World} {A : Option Addr} {l : List α} (h : K.Has W A l) (k : Below W.heap.size W W') : K.Has W' A l := fun hn => by
  obtain ⟨g, o, e, hg, hc⟩ := h hn
  exact ⟨g, o, e, Nat.lt_of_lt_of_le hg k.size, fun i hi j u hu => (k.cell (p := ⟨g, _, none⟩) hg).trans (hc i hi j u hu)⟩
theorem Has.nil {W : World} {A : Option Addr} : K.Has W A [] := fun h => absurd h (Nat.lt_irrefl 0)
theorem Own.has {W : World} {v : Value} {l : List α} (h : K.Own W v l) : ∃ A c, v = .slice A l.length c ∧ l.length ≤ c ∧ K.Has W A l := by
  by_cases hn : 0 < l.length
  · obtain ⟨g, c, hv, hg, hc, _, hcell⟩ := h.cell hn
    refine ⟨_, c, hv, hc, fun _ => ⟨g, 0, rfl, hg, fun i hi j u hu => ?_⟩⟩
    rw [Nat.zero_add]
    refine hcell _ _ ?_
    rw [K.all_at hi (by rw [← K.len l[i]]; exact (List.getElem?_eq_some_iff.1 hu).1)]
    exact hu
  · obtain ⟨A, c, hv, hc⟩ := h.slice
    exact ⟨A, c, hv, hc, fun h => absurd h hn⟩
/-- one more, read -/
theorem Has.at_ {W : World} {A : Option Addr} {l : List α} (h : K.Has W A l) {i : Nat} (hi : i < l.length) : ∃ g o, A = some (⟨g, o, none⟩ : Addr) ∧ g < W.heap.size ∧ ∀ j u, (K.cells l[i]).toList[j]? = some u → ∀ W', Below W.heap.size W W' → W'.cell? ⟨g, o + i * K.k + j, none⟩ = some u := by
  obtain ⟨g, o, e, hg, hc⟩ := h (by omega)
  exact ⟨g, o, e, hg, fun j u hu W' k => (k.cell (p := ⟨g, _, none⟩) hg).trans (hc i hi j u hu)⟩
end RowK
end Go.Proofs.YtilfcikhipadpaaGreatDoor
end

section
/- How an argument that is a struct or an array (of whatever depth) of one-cell leaves reads: each cell by its place. No program. -/
set_option linter.unusedVariables false
namespace Go.Proofs.YtilfcikhipadpaaGreatDoor
open Go.RowKit Go.ChangeShapes Go.WideShapes

/-- the type of the leaf at cell i of a value of type t -/
def leafAt (P : Program) : Nat → TypeId → Nat → Option TypeId
  | 0, _, _ => none
  | n + 1, t, i =>
    match P.underlying t with
    | some (.struct fs) =>
      match fs.toList.find? (fun f => decide (f.offset ≤ i) && decide (i < f.offset + P.cellsOf f.type)) with
      | some f => leafAt P n f.type (i - f.offset)
      | none => none
    | some (.array m e) => if i / P.cellsOf e < m then leafAt P n e (i % P.cellsOf e) else none
    | some (.int _) | some .bool | some .string | some (.slice _) => if i = 0 then some t else none
    | _ => none

section
variable {H : Type} {enc : TypeId × Value → H} {P : Program} {w : World} {base : Nat} {spare : Nat → Bool} {held : Bool}

/-- the cell at i, and that it reads by itself; D: what the whole weighs -/
def LeafIs (enc : TypeId × Value → H) (P : Program) (w : World) (base : Nat) (spare : Nat → Bool) (held : Bool) (D : List Nat) (cs : List Value) (i : Nat) (u : TypeId) : Prop :=
  ∃ v x n, cs[i]? = some v ∧ DataW.trod enc P w base spare held n u [v] = some x ∧ ∀ m ∈ x.1.weights P u, m ∈ D

theorem slice_at {cs : List Value} {o c j : Nat} {v : Value} (h : ((cs.drop o).take c)[j]? = some v) : cs[o + j]? = some v := by
  have hj : j < c := by
    have := (List.getElem?_eq_some_iff.1 h).1
    simp at this; omega
  rw [List.getElem?_take_of_lt hj, List.getElem?_drop] at h
  exact h
theorem weights_all {e : TypeId} : ∀ {ds : List (DataW H)} {j : Nat} {d : DataW H}, ds[j]? = some d → ∀ m ∈ d.weights P e, m ∈ DataW.weightsAll P e ds
  | d0 :: ds, 0, d, hd, m, hm => by
    simp only [List.getElem?_cons_zero, Option.some.injEq] at hd
    subst hd
    simp only [DataW.weightsAll, List.mem_append]; exact .inl hm
  | d0 :: ds, j + 1, d, hd, m, hm => by
    simp only [DataW.weightsAll, List.mem_append]
    exact .inr (weights_all (j := j) (by simpa using hd) m hm)

theorem leafAt_of : ∀ {n : Nat} {t : TypeId} {i : Nat} {u : TypeId} (_ : leafAt P n t i = some u) {fuel : Nat} {cs : List Value} {x : DataW H × List MemPlace},
    DataW.trod enc P w base spare held fuel t cs = some x → LeafIs enc P w base spare held (x.1.weights P t) cs i u
  | 0, _, _, _, h, _, _, _, _ => by cases h
  | n + 1, t, i, u, h, fuel, cs, x, hx => by
    unfold leafAt at h
    split at h
    · rename_i fs hfs
      split at h
      · rename_i f hf
        obtain ⟨xs, m, _, hxx, hlen, hxl, hg⟩ := DataW.trod_struct hfs hx
        have hp := List.find?_some hf
        simp only [Bool.and_eq_true, decide_eq_true_eq] at hp
        obtain ⟨j, hj⟩ := List.mem_iff_getElem?.1 (List.mem_of_find?_eq_some hf)
        have hjl : j < fs.size := by have := (List.getElem?_eq_some_iff.1 hj).1; simpa using this
        have h1 := hg j f (by rw [← Array.getElem?_toList]; exact hj)
        rw [List.getElem?_eq_getElem (by omega)] at h1
        obtain ⟨v, y, k, hv, hy, hw⟩ := leafAt_of h h1
        refine ⟨v, y, k, ?_, hy, fun q hq => ?_⟩
        · have := slice_at hv
          rwa [show f.offset + (i - f.offset) = i from by omega] at this
        · have h2 := hw q hq
          rw [hxx]
          simp only [DataW.weights, hfs]
          exact DataW.weights_mem_each (ts := fs.toList.map (·.type)) (ds := xs.map (·.1)) (j := j) (by rw [List.getElem?_map, hj]; rfl) (by rw [List.getElem?_map, List.getElem?_eq_getElem (by omega)]; rfl) q h2
      · cases h
    · rename_i m e he
      split at h
      · rename_i hm
        obtain ⟨xs, k, _, hxx, hlen, hxl, hg⟩ := DataW.trod_array he hx
        have h1 := hg (i / P.cellsOf e) hm
        rw [List.getElem?_eq_getElem (by omega)] at h1
        obtain ⟨v, y, k, hv, hy, hw⟩ := leafAt_of h h1
        refine ⟨v, y, k, ?_, hy, fun q hq => ?_⟩
        · have := slice_at hv
          rwa [Nat.mul_comm, Nat.div_add_mod] at this
        · have h2 := hw q hq
          rw [hxx]
          simp only [DataW.weights, he]
          exact weights_all (ds := xs.map (·.1)) (j := i / P.cellsOf e) (by rw [List.getElem?_map, List.getElem?_eq_getElem (by omega)]; rfl) q h2
      · cases h
    · split at h
      · rename_i hi
        subst hi
        injection h with h
        subst h
        obtain ⟨k, hk, _⟩ := DataW.trod_int (by assumption) hx
        exact ⟨_, x, fuel, by rw [hk]; rfl, by rw [← hk]; exact hx, fun q hq => hq⟩
      · cases h
    · split at h
      · rename_i hi
        subst hi
        injection h with h
        subst h
        obtain ⟨k, hk, _⟩ := DataW.trod_bool (by assumption) hx
        exact ⟨_, x, fuel, by rw [hk]; rfl, by rw [← hk]; exact hx, fun q hq => hq⟩
      · cases h
    · split at h
      · rename_i hi
        subst hi
        injection h with h
        subst h
        obtain ⟨k, hk, _⟩ := DataW.trod_string (by assumption) hx
        exact ⟨_, x, fuel, by rw [hk]; rfl, by rw [← hk]; exact hx, fun q hq => hq⟩
      · cases h
    · split at h
      · rename_i hi
        subst hi
        injection h with h
        subst h
        rcases DataW.trod_slice (by assumption) hx with ⟨hk, _⟩ | ⟨_, _, _, _, _, _, _, hk, _⟩
        · exact ⟨_, x, fuel, by rw [hk]; rfl, by rw [← hk]; exact hx, fun q hq => hq⟩
        · exact ⟨_, x, fuel, by rw [hk]; rfl, by rw [← hk]; exact hx, fun q hq => hq⟩
      · cases h
    · cases h

variable {D : List Nat} {cs : List Value} {i : Nat} {u : TypeId}
theorem leaf_int {k : IntKind} (h : LeafIs enc P w base spare held D cs i u) (hu : P.underlying u = some (.int k)) : ∃ n, cs[i]? = some (.int k n) ∧ (Lit.int k n).wf = true := by
  obtain ⟨v, x, n, hv, hx, _⟩ := h
  obtain ⟨m, hm, _, hw⟩ := DataW.trod_int hu hx
  exact ⟨m, by rw [hv]; injection hm with hm; rw [hm], hw⟩
theorem leaf_string (h : LeafIs enc P w base spare held D cs i u) (hu : P.underlying u = some .string) (hD : ∀ m ∈ D, m ≤ reachBytes) : ∃ s, cs[i]? = some (.string s) ∧ s.size ≤ 140737488351232 := by
  obtain ⟨v, x, n, hv, hx, hw⟩ := h
  obtain ⟨m, hm, hx', _⟩ := DataW.trod_string hu hx
  refine ⟨m, by rw [hv]; injection hm with hm; rw [hm], ?_⟩
  exact hD _ (hw m.data.toList.length (by rw [hx']; simp [DataW.weights]))
theorem okWide_array {r : Reach} {b n : Nat} {t e : TypeId} {v : Value} (ht : P.underlying t = some (.array n e)) (h : Value.okWide P w r b t v) : ∃ cs, v = .agg cs ∧ cs.size = P.cellsOf t := by
  simp only [Value.okWide, ht] at h
  obtain ⟨cs, h1, h2, _⟩ := h
  exact ⟨cs, h1, h2⟩
theorem sized_at {ts : List TypeId} {ds : List (DataW H)} (h : (DataW.weightsEach P ts ds).all (· ≤ reachBytes) = true) {j : Nat} {t : TypeId} {d : DataW H} (ht : ts[j]? = some t) (hd : ds[j]? = some d) : ∀ m ∈ d.weights P t, m ≤ reachBytes := fun m hm => by
  have := List.all_eq_true.1 h _ (DataW.weights_mem_each ht hd m hm)
  simpa using this
end

theorem arr_ext {cs ds : Array Value} (hz : cs.size = ds.size) (h : ∀ j, j < ds.size → cs.toList[j]? = ds[j]?) : cs = ds := by
  refine Array.ext hz (fun j h1 h2 => ?_)
  have := h j h2
  rw [Array.getElem?_toList, Array.getElem?_eq_getElem h1, Array.getElem?_eq_getElem h2] at this
  exact Option.some.inj this
end Go.Proofs.YtilfcikhipadpaaGreatDoor
end

section
/- Slices of structs (of any kind), as arguments. -/
set_option linter.unusedVariables false
set_option linter.unusedSimpArgs false
namespace Go.Proofs.YtilfcikhipadpaaGreatDoor
open Go.RowKit Go.Lib Go.ChangeShapes Go.WideShapes Go.Deep

theorem choose_listK {α : Type} {P : Nat → α → Prop} : ∀ n, (∀ i, i < n → ∃ x, P i x) → ∃ l : List α, l.length = n ∧ ∀ i (hi : i < l.length), P i l[i]
  | 0, _ => ⟨[], rfl, fun i hi => absurd hi (Nat.not_lt_zero i)⟩
  | n + 1, h => by
    obtain ⟨l, h1, h2⟩ := choose_listK n fun i hi => h i (by omega)
    obtain ⟨x, hx⟩ := h n (by omega)
    refine ⟨l ++ [x], by simp [h1], fun i hi => ?_⟩
    by_cases e : i < l.length
    · rw [List.getElem_append_left e]; exact h2 i e
    · have e' : i = n := by simp at hi; omega
      subst e'
      rw [List.getElem_append_right (by omega)]
      simpa [h1] using hx

/-- how one element reads: what it is -/
def RowK.Reads {α : Type} (K : RowK α) (Ok : α → Prop) : Prop :=
  ∀ {H : Type} {enc : TypeId × Value → H} {W : World} {base : Nat} {spare : Nat → Bool} {held : Bool} {n : Nat} {cs : List Value} {x : DataW H × List MemPlace},
    DataW.trod enc Tryz.prog W base spare held n K.T cs = some x → ∃ a : α, Ok a ∧ ∀ (j : Nat) (u : Value), (K.cells a).toList[j]? = some u → cs[j]? = some u
theorem RowK.opened {α : Type} (K : RowK α) (Ok : α → Prop) (hk : Tryz.prog.cellsOf K.T = K.k) (hr : K.Reads Ok) {H : Type} {enc : TypeId × Value → H} {W : World} {base : Nat} {spare : Nat → Bool} {held : Bool} {fuel : Nat} {v : Value} {x : DataW H × List MemPlace}
    (h : DataW.trod enc Tryz.prog W base spare held fuel K.S [v] = some x) : ∃ A n c l, v = .slice A n c ∧ n = l.length ∧ n ≤ c ∧ K.Has W A l ∧ K.Read W (.slice A n c) l ∧ (∀ d ∈ l, Ok d) ∧ n ≤ 9223372036854775807 := by
  rcases open_slice (P := Tryz.prog) (e := K.T) K.tS h with ⟨hcs, _⟩ | ⟨b, len, c, m, n, D, Pl, hcs, hb, hl, hm, hmm, hx, hi⟩
  · simp at hcs
    subst hcs
    exact ⟨none, 0, 0, [], rfl, rfl, Nat.le_refl _, Has.nil, Or.inl ⟨rfl, rfl⟩, (fun x hx => by cases hx), by simp⟩
  · simp at hcs
    subst hcs
    have hlm : len ≤ m := by rw [hmm]; split <;> omega
    rw [hk] at hi
    obtain ⟨ds, h1, h2⟩ := choose_listK (α := α) (P := fun i d => Ok d ∧ ∀ j u, (K.cells d).toList[j]? = some u → W.cell? ((b.add (i * K.k)).add j) = some u) len (fun i hil => by
      obtain ⟨cs', hc, ht⟩ := hi i (by omega)
      obtain ⟨_, hcl, hat⟩ := World.cells?_some hc
      obtain ⟨a, ha, hq⟩ := hr ht
      refine ⟨a, ha, fun j u hu => ?_⟩
      have hj : j < K.k := by rw [← K.len a]; exact (List.getElem?_eq_some_iff.1 hu).1
      rw [hat j hj]
      exact hq j u hu)
    subst h1
    have hread : ∀ j u, (K.all ds)[j]? = some u → W.cell? (b.add j) = some u := fun j u hu => by
      have hj : j < ds.length * K.k := by rw [← K.all_length]; exact (List.getElem?_eq_some_iff.1 hu).1
      have hi : j / K.k < ds.length := Nat.div_lt_of_lt_mul (by rw [Nat.mul_comm]; exact hj)
      have hr : j % K.k < K.k := Nat.mod_lt _ K.pos
      have e : j = j / K.k * K.k + j % K.k := by rw [Nat.mul_comm]; exact (Nat.div_add_mod _ _).symm
      rw [e, K.all_at hi hr] at hu
      have := (h2 (j / K.k) hi).2 _ _ hu
      rw [add_add, ← e] at this
      exact this
    refine ⟨some b, ds.length, c, ds, rfl, rfl, hl, fun hn => ?_, Or.inr ⟨b, c, rfl, hread⟩, fun d hd => ?_, by unfold maxLen at hm; omega⟩
    · obtain ⟨_, k0⟩ := h2 0 hn
      have hz : 0 < (K.cells ds[0]).toList.length := by rw [K.len]; exact K.pos
      obtain ⟨u0, hu0⟩ : ∃ u, (K.cells ds[0]).toList[0]? = some u := ⟨_, List.getElem?_eq_getElem hz⟩
      obtain ⟨g, o, s⟩ := b
      have hs : s = none := by
        have h7 := k0 0 _ hu0
        simp only [Nat.zero_mul, Addr.add, if_pos] at h7
        cases s with
        | none => rfl
        | some z => simp [World.cell?] at h7; split at h7 <;> simp at h7
      subst hs
      refine ⟨g, o, rfl, ?_, fun i hi2 j u hu => ?_⟩
      · have h7 := k0 0 _ hu0
        rw [Addr.add_lit, Addr.add_lit] at h7
        exact World.block_lt_of_cell? W _ h7
      · have h7 := (h2 i hi2).2 j u hu
        rw [Addr.add_lit, Addr.add_lit] at h7
        exact h7
    · obtain ⟨i, hi2, rfl⟩ := List.getElem_of_mem hd
      exact (h2 i hi2).1
end Go.Proofs.YtilfcikhipadpaaGreatDoor
end
