/- Several texts of this claim, one behind the other. -/
import Derived.Test.YtilfcikhipadpaaDoorM5
import Derived.Maps.AppendAt
import Derived.Lib.AppendZerosOnto
import Derived.Laws.NewBlocks

section
/- rules: a rule put into a slice of rules (slices.Insert). -/
set_option linter.unusedVariables false
set_option linter.unusedSimpArgs false
namespace Go.Proofs.YtilfcikhipadpaaDoor
open Go.RowKit Go.Lib
attribute [local go_sem] Oper.semAt_some

theorem oneCells (l : List Rule) : ∀ v ∈ cellsOf l, v.oneCell' = true := by
  intro v hv
  obtain ⟨r, _, hr⟩ := List.mem_flatMap.1 hv
  simp only [Rule.cells, List.mem_cons, List.not_mem_nil, or_false] at hr
  rcases hr with h | h | h | h | h | h | h | h | h | h | h <;> (subst h; rfl)
theorem oneCell1 (r : Rule) : ∀ v ∈ r.cells.toList, v.oneCell' = true := by
  have := oneCells [r]
  simpa [cellsOf] using this

theorem Cells.setCells_ {b : Nat} {T : TypeId} : ∀ (vs : List Value) (o : Nat) (cs : Array Value) (w : World), Cells w b cs T → o + vs.length ≤ cs.size → ∃ cs', Cells (w.setCells b o vs) b cs' T ∧ cs'.size = cs.size ∧ ∀ j, cs'.toList[j]? = if o ≤ j ∧ j < o + vs.length then vs[j - o]? else cs.toList[j]?
  | [], o, cs, w, h, _ => ⟨cs, h, rfl, fun j => by rw [if_neg (by simp)]⟩
  | v :: vs, o, cs, w, h, hs => by
    simp only [List.length_cons] at hs
    obtain ⟨cs', h1, h2, h3⟩ := Cells.setCells_ vs (o + 1) _ _ (Cells.set_ h o v) (by simp; omega)
    refine ⟨cs', h1, by rw [h2]; simp, fun j => ?_⟩
    rw [h3 j]
    by_cases e : j = o
    · subst e
      rw [if_neg (by omega), if_pos (by simp), Array.toList_setIfInBounds, List.getElem?_set_self (by rw [Array.length_toList]; omega)]
      simp
    · by_cases h4 : o + 1 ≤ j ∧ j < o + 1 + vs.length
      · rw [if_pos h4, if_pos (by simp only [List.length_cons]; omega), show j - o = (j - (o + 1)) + 1 by omega]
        rfl
      · rw [if_neg h4, if_neg (by simp only [List.length_cons]; omega)]
        rw [Array.toList_setIfInBounds, List.getElem?_set_ne (by omega)]
theorem size_setCells_ (b : Nat) : ∀ (vs : List Value) (o : Nat) (w : World), (w.setCells b o vs).heap.size = w.heap.size
  | [], _, _ => rfl
  | v :: vs, o, w => by rw [World.setCells, size_setCells_ b vs]; simp
theorem Only.setCells_ {X : Nat → Prop} {A : World} {b : Nat} : ∀ (vs : List Value) (o : Nat) (w : World), Only X A w → X b ∨ A.heap.size ≤ b → Only X A (w.setCells b o vs)
  | [], _, _, h, _ => h
  | v :: vs, o, w, h, hb => Only.setCells_ vs (o + 1) _ (by
      refine ⟨h.os, h.tape, h.output, by have := h.size; simpa using this, fun k hk hx => ?_⟩
      refine Eq.trans ?_ (h.block k hk hx)
      exact Below.heap_setCell w ⟨b, o, none⟩ v k (by
        show k ≠ b
        rintro rfl
        rcases hb with hb | hb
        · exact hx hb
        · omega)) hb

/-- the rows of rules with one put in -/
theorem cellsOf_insert (l : List Rule) (i : Nat) (r : Rule) : cellsOf (l.take i ++ r :: l.drop i) = (cellsOf l).take (i * 11) ++ (r.cells.toList ++ (cellsOf l).drop (i * 11)) := by
  rw [cellsOf_append, cellsOf_take, cellsOf_drop]
  rfl

/-- cells with rows put in place -/
theorem put_row {X R Y : List Value} {n i : Nat} (hi : i ≤ n) (hX : X.length = n * 11) (hR : R.length = 11) (hY : ∀ j, j < (n + 1) * 11 → Y[j]? = if i * 11 ≤ j ∧ j < i * 11 + 11 then R[j - i * 11]? else if (i + 1) * 11 ≤ j ∧ j < (i + 1) * 11 + (n - i) * 11 then (X.drop (i * 11))[j - (i + 1) * 11]? else X[j]?) (hl : (n + 1) * 11 ≤ Y.length) :
    Y.take ((n + 1) * 11) = X.take (i * 11) ++ (R ++ X.drop (i * 11)) := by
  apply List.ext_getElem?
  intro j
  by_cases h : j < (n + 1) * 11
  · rw [List.getElem?_take_of_lt h, hY j h]
    by_cases h1 : j < i * 11
    · rw [if_neg (by omega), if_neg (by omega), List.getElem?_append_left (by rw [List.length_take]; omega), List.getElem?_take_of_lt h1]
    · rw [List.getElem?_append_right (by rw [List.length_take]; omega), List.length_take, Nat.min_eq_left (by omega)]
      by_cases h2 : j < i * 11 + 11
      · rw [if_pos (by omega), List.getElem?_append_left (by omega)]
      · rw [if_neg (by omega), if_pos (by omega), List.getElem?_append_right (by omega), hR, show j - (i + 1) * 11 = j - i * 11 - 11 by omega]
  · rw [List.getElem?_eq_none (by rw [List.length_take]; omega), List.getElem?_eq_none (by simp only [List.length_append, List.length_take, List.length_drop]; omega)]
end Go.Proofs.YtilfcikhipadpaaDoor
end

section
/- rules: slices.Insert at rules. -/
set_option linter.unusedVariables false
set_option linter.unusedSimpArgs false
namespace Go.Proofs.YtilfcikhipadpaaDoor
open Go.RowKit Go.Lib
attribute [local go_sem] Oper.semAt_some

theorem tSl : Tryd.prog.underlying 87 = some (.slice 77) := by kernel_rfl
theorem tRu : (Tryd.prog.info? 77).map (fun i => (i.zero, i.size, i.bytes)) = some (some (.agg #[.int .i64 0, .int .u8 0, .int .u32 0, .int .i64 0, .int .u32 0, .int .i64 0, .int .u32 0, .int .u16 0, .int .u16 0, .int .u32 0, .int .u16 0]), 11, 64) := by kernel_rfl
def zRu : Value := .agg #[.int .i64 0, .int .u8 0, .int .u32 0, .int .i64 0, .int .u32 0, .int .i64 0, .int .u32 0, .int .u16 0, .int .u16 0, .int .u32 0, .int .u16 0]
theorem zRu_cells : zRu.cells.size = 11 := by rfl

set_option maxHeartbeats 4000000 in
set_option maxRecDepth 100000 in
/-- at the end -/
theorem Insert_end (v : Value) (l : List Rule) (r : Rule) (vb : Nat) (w : World) (hv : RR w v l) (hn : l.length ≤ 1000) (hr : ∀ i u, r.cells.toList[i]? = some u → w.cell? ⟨vb, i, none⟩ = some u) :
    Calls Tryd.prog 35 #[v, .int .i64 l.length, .slice (some ⟨vb, 0, none⟩) 1 1] w fun e w' => ∃ v', e = .returned v' ∧ RR w' v' (l ++ [r]) ∧ w.grownBy w' v.ownBlock ∧ (v'.ownBlock = v.ownBlock ∨ v'.ownBlock = some w.heap.size) := by
  obtain ⟨i0, hi0, hz0, hzs, hzb⟩ := info_parts tRu
  have hw1 : IntKind.i64.wrap ((l.length : Int) + 1) = (l.length : Int) + 1 := by rw [IntKind.wrap_i64]; omega
  obtain ⟨n, hnn⟩ : ∃ n, n = l.length := ⟨_, rfl⟩
  unfold RR at hv
  rw [← hnn] at hv hw1 hn ⊢
  have key : ∀ v' w', w'.ownsRow 0 77 11 v' (n + 1) (cellsOf l ++ r.cells.toList) → w.grownBy w' v.ownBlock → (v'.ownBlock = v.ownBlock ∨ v'.ownBlock = some w.heap.size) → RR w' v' (l ++ [r]) := by
    intro v' w' h _ _
    unfold RR
    rw [cellsOf_append, List.length_append, ← hnn]
    have : cellsOf [r] = r.cells.toList := by simp [cellsOf]
    rw [this]
    exact h
  have H : Aside (∀ j u, r.cells.toList[j]? = some u → w.cell? ⟨vb, j, none⟩ = some u) := hr
  have KEY := hide key
  clear key hr
  obtain ⟨xs, hxs⟩ : ∃ xs, xs = cellsOf l := ⟨_, rfl⟩
  rw [← hxs] at hv KEY
  clear hnn hxs
  rcases hv.2 with ⟨rfl, rfl⟩ | ⟨g, c, cur, rfl, _, _, hnc, hcm, _⟩
  · have HV := hide hv
    clear hv
    go_enter Tryd.func35, Tryd.ntmps35
    go_wp2_with (at_builtin; refine wpList_append_own_at _ rfl _ _ 87 rfl 0 77 i0 zRu 11 64 tSl hi0 hz0 hzs hzb zRu_cells (by decide) _ _ xs rfl HV.out ⟨vb, 0, none⟩ 1 1 r.cells.toList rfl rfl (fun j u hj => by rw [Addr.add_lit, Nat.zero_add]; exact H.out j u hj) (oneCell1 r) (by unfold maxLen; omega) (by omega) (Nat.zero_le _) ?_)
    all_goals
      intro v' w1 hown hgrow hnil hob
      go_wp2_with fail
      go_ret
      exact ⟨v', rfl, KEY.out v' w1 hown hgrow hob, hgrow, hob⟩
  · have HV := hide hv
    clear hv
    unfold maxLen at hcm
    go_enter Tryd.func35, Tryd.ntmps35
    go_wp2_with (at_builtin; refine wpList_append_own_at _ rfl _ _ 87 rfl 0 77 i0 zRu 11 64 tSl hi0 hz0 hzs hzb zRu_cells (by decide) _ _ xs rfl HV.out ⟨vb, 0, none⟩ 1 1 r.cells.toList rfl rfl (fun j u hj => by rw [Addr.add_lit, Nat.zero_add]; exact H.out j u hj) (oneCell1 r) (by unfold maxLen; omega) (by omega) (Nat.zero_le _) ?_)
    all_goals
      intro v' w1 hown hgrow hnil hob
      go_wp2_with fail
      go_ret
      exact ⟨v', rfl, KEY.out v' w1 hown hgrow hob, hgrow, hob⟩

end Go.Proofs.YtilfcikhipadpaaDoor
end
