/- rules: append at rules, in a region; the document's clash is the program's. -/
import Derived.Test.YtbboajhdijabbaaRdoc5
import Derived.Deep.Upon
import Derived.Deep.RegionHeldLaw
set_option linter.unusedVariables false
set_option linter.unusedSimpArgs false
namespace Go.Proofs.Ytbboajhdijabbaa
open Go.RowKit Go.Lib
attribute [local go_sem] Oper.semAt_some

/-- a slice of rules that is read -/
def SrcR (W : World) (x : Value) (m : List Rule) : Prop := (x = .slice none 0 0 ∧ m = []) ∨ ∃ a c, x = .slice (some a) m.length c ∧ ∀ j u, (cellsOf m)[j]? = some u → W.cell? (a.add j) = some u
theorem SrcR.one {W : World} {vb : Nat} {r : Rule} (h : Cells W vb r.cells 30) : SrcR W (.slice (some ⟨vb, 0, none⟩) 1 1) [r] :=
  Or.inr ⟨_, _, rfl, fun j u hu => by
    have e : cellsOf [r] = r.cells.toList := by simp [cellsOf]
    rw [e] at hu
    rw [Addr.add_lit, Nat.zero_add, Lib.cell_of_heap h]
    simpa using hu⟩
theorem SrcR.take {W : World} {g n c i : Nat} {l : List Rule} (h : RR W (.slice (some ⟨g, 0, none⟩) n c) l) (hi : i ≤ l.length) (c' : Nat) : SrcR W (.slice (some ⟨g, 0, none⟩) i c') (l.take i) := by
  refine Or.inr ⟨_, _, by rw [List.length_take, Nat.min_eq_left hi], fun j u hu => ?_⟩
  rw [← cellsOf_take, List.getElem?_take] at hu
  split at hu
  · have hne : l ≠ [] := by rintro rfl; simp [cellsOf] at hu
    obtain ⟨g', c'', hv, _, _, _, hc⟩ := RR.cell h hne
    cases hv
    rw [Addr.add_lit, Nat.zero_add]
    exact hc _ _ hu
  · cases hu
theorem SrcR.drop {W : World} {g n c i : Nat} {l : List Rule} (h : RR W (.slice (some ⟨g, 0, none⟩) n c) l) (hi : i ≤ l.length) (A : Addr) (hA : (if c = i then some (⟨g, 0, none⟩ : Addr) else some ⟨g, i * 11, none⟩) = some A) (c' k : Nat) (hk : k = l.length - i) : SrcR W (.slice (some A) k c') (l.drop i) := by
  subst hk
  refine Or.inr ⟨_, _, by rw [List.length_drop], fun j u hu => ?_⟩
  rw [← cellsOf_drop, List.getElem?_drop] at hu
  have hne : l ≠ [] := by rintro rfl; simp [cellsOf] at hu
  obtain ⟨g', c'', hv, _, h1, _, hc⟩ := RR.cell h hne
  cases hv
  by_cases e : c = i
  · have : l.length = i := by omega
    have h2 := (List.getElem?_eq_some_iff.1 hu).1
    rw [cellsOf_length] at h2
    omega
  · rw [if_neg e] at hA
    cases hA
    rw [Addr.add_lit]
    exact hc _ _ hu

theorem runApp (W : World) (v x : Value) (l m : List Rule) (hv : RR W v l) (hx : SrcR W x m) (hn : l.length + m.length ≤ 2000) (ty : TypeId) :
    ∃ A n c W', (Builtin.append_ #[51, 51] ty #[v, x]).run Try.prog W = .ok (.slice A n c) W' ∧ RR W' (.slice A n c) (l ++ m) ∧ W.grownBy W' v.ownBlock ∧ ((Value.slice A n c).ownBlock = v.ownBlock ∨ (Value.slice A n c).ownBlock = some W.heap.size) := by
  obtain ⟨i0, hi0, hz0, hzs, hzb⟩ := info_parts tRu
  rcases hx with ⟨rfl, rfl⟩ | ⟨a, c, rfl, hc⟩
  · have hsrc : Src Try.prog i0.size 51 (.slice none 0 0) 0 [] W := Src.ofNil W tSl 0
    obtain ⟨A, c, hv'⟩ := slice_of hv
    have hle : l.length ≤ c := by
      have h2 := hv.2
      rcases h2 with ⟨h, h3⟩ | ⟨g, c', cur, h, _, _, h1, _⟩
      · rw [h3]; omega
      · rw [hv'] at h; cases h; exact h1
    subst hv'
    refine ⟨A, l.length, c, W, run_append_nothing W 51 51 ty 30 i0 tSl hi0 A _ c hle _ hsrc, by rw [List.append_nil]; exact hv, ⟨rfl, rfl, rfl, Nat.le_refl _, fun _ _ _ => rfl⟩, Or.inl rfl⟩
  · unfold RR at hv
    obtain ⟨v', W', h1, h2, h3, _, h5⟩ := run_append_own_at (w := W) 0 51 ty 30 i0 zRu 11 64 tSl hi0 hz0 hzs hzb zRu_cells (by decide) v l.length (cellsOf l) hv a m.length c (cellsOf m) (cellsOf_length m) hc (oneCells m) (by unfold maxLen; omega) (by omega) (Nat.zero_le _)
    have hr : RR W' v' (l ++ m) := by
      unfold RR
      rw [cellsOf_append, List.length_append]
      exact h2
    obtain ⟨A', c', rfl⟩ := slice_of hr
    exact ⟨A', _, c', W', h1, hr, h3, h5⟩

/-- append at rules, as a step of a region -/
theorem step_app {ops : Array Oper} {o : Oper} {a : Act} {w : World} {K : Act → World → Prop} {Q : Exit → Act → World → Prop} {E : Prop}
    (hg : o.guard = none) (d x : Operand) (hop : o.op = Op.call { callee := Callee.builtin Builtin.append, args := #[d, x], argTypes := #[51, 51] })
    (v u : Value) (hd : a.eval d = v) (hx : a.eval x = u) (l m : List Rule) (hv : RR w v l) (hu : SrcR w u m) (hn : l.length + m.length ≤ 2000)
    (hK : ∀ A n c w', RR w' (.slice A n c) (l ++ m) → w.grownBy w' v.ownBlock → ((Value.slice A n c).ownBlock = v.ownBlock ∨ (Value.slice A n c).ownBlock = some w.heap.size) → K (a.put o.dst (.slice A n c)) w') :
    if Region.wanted o (yielded ops a.tmps) = true then Oper.wp Try.prog o a w K Q else E := by
  obtain ⟨A, n, c, w', hr, h1, h2, h3⟩ := runApp w v u l m hv hu hn o.type
  have hw : Region.wanted o (yielded ops a.tmps) = true := by simp [Region.wanted, hg]
  rw [if_pos hw]
  unfold Oper.wp
  simp [execOp, hop, resolve, invoke, builtin, hd, hx, hr, Result.andThen]
  exact hK A n c w' h1 h2 h3

theorem Below.app {n : Nat} {w0 w w' : World} {row : Option Nat} (h : Below n w0 w) (hg : w.grownBy w' row) (hr : ∀ k, row = some k → n ≤ k) (hn : n ≤ w.heap.size) : Below n w0 w' := h.grown hg hn hr

end Go.Proofs.Ytbboajhdijabbaa
