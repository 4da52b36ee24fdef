/- rules: slices.Clone, slices.Delete at rules. -/
import Derived.Test.YtbboajhdijabbaaRule9
import Derived.Deep.RegionLaw
set_option linter.unusedVariables false
set_option linter.unusedSimpArgs false
namespace Go.Proofs.Ytbboajhdijabbaa
open Go.RowKit Go.Lib
attribute [local go_sem] Oper.semAt_some

theorem zRu_one : (Builtin.zeroCells zRu.cells 1).toList = zRu.cells.toList := by kernel_rfl
/-- a value's own block, fresh: behind 'B' -/
def Fresh (B : Nat) (v : Value) : Prop := ∀ g, v.ownBlock = some g → B ≤ g

set_option maxHeartbeats 2000000 in
set_option maxRecDepth 100000 in
theorem Clone_row (b n c : Nat) (news : List Value) (w : World) (hl : news.length = n * 11) (hn : n ≤ 1000)
    (hc : ∀ j u, news[j]? = some u → w.cell? ⟨b, j, none⟩ = some u) (h1 : ∀ u ∈ news, u.oneCell' = true) :
    Calls Try.prog 50 #[.slice (some ⟨b, 0, none⟩) n c] w fun e w' => ∃ v', e = .returned v' ∧ w'.ownsRow w.heap.size 30 11 v' n news ∧ Below w.heap.size w w' := by
  obtain ⟨i0, hi0, hz0, hzs, hzb⟩ := info_parts tRu
  have q22 : ∀ (w : World) (a : Option Addr) (n c n' c' : Nat), (binOp .eql 51 (.slice a n c) (.slice none n' c')).run Try.prog w = .ok (.bool a.isNone) w := fun w a n c n' c' => Lib.run_eql_slice_nil w _ _ a n c n' c' tSl
  have A : Aside (∀ j u, news[j]? = some u → w.cell? ⟨b, j, none⟩ = some u) := hc
  clear hc
  go_enter Try.func50, Try.ntmps50
  go_wp2_with (at_builtin; refine wpList_append_own _ rfl _ _ 51 rfl w.heap.size 30 i0 zRu 11 64 tSl hi0 hz0 hzs hzb zRu_cells (by decide) _ _ _ rfl (World.ownsRow_made w #[] 0 (Nat.le_refl _) (Nat.zero_le _) (by simp)) ⟨b, 0, none⟩ n c news rfl ?qc1 ?qc2 ?qc3 ?qc4 ?qc5 ?qc6 ?_)
  case qc1 => exact hl
  case qc2 =>
    intro j u hj
    rw [Addr.add_lit, Nat.zero_add]
    exact Lib.cell?_alloc_some _ (A.out j u hj)
  case qc3 => exact h1
  case qc4 => rw [Nat.zero_add]; unfold maxLen; omega
  case qc5 => rw [Nat.zero_add]; omega
  case qc6 => simp
  intro v' w1 hown hgrow hnil
  go_wp2
  go_ret
  refine ⟨v', rfl, by simpa using hown, ?_⟩
  exact ((Below.refl _ w).alloc (Nat.le_refl _) _).grown hgrow (by simp) (by intro k hk; simp [Value.ownBlock] at hk; omega)

set_option maxHeartbeats 1000000 in
theorem Clone_nil (w : World) : Calls Try.prog 50 #[.slice none 0 0] w fun e w' => e = .returned (.slice none 0 0) ∧ w' = w := by
  have q22 : ∀ (w : World) (a : Option Addr) (n c n' c' : Nat), (binOp .eql 51 (.slice a n c) (.slice none n' c')).run Try.prog w = .ok (.bool a.isNone) w := fun w a n c n' c' => Lib.run_eql_slice_nil w _ _ a n c n' c' tSl
  go_enter Try.func50, Try.ntmps50
  go_wp2
  go_ret
  exact ⟨rfl, rfl⟩

theorem CloneRR (v : Value) (l : List Rule) (w : World) (hv : RR w v l) (hn : l.length ≤ 1000) :
    Calls Try.prog 50 #[v] w fun e w' => ∃ v', e = .returned v' ∧ RR w' v' l ∧ Below w.heap.size w w' ∧ Fresh w.heap.size v' := by
  have hv' := hv
  unfold RR at hv'
  rcases hv'.2 with ⟨rfl, h0⟩ | ⟨g, c, cur, rfl, _, hcur, h1, h2, h3, h4⟩
  · refine (Clone_nil w).mono ?_
    rintro e w' ⟨rfl, rfl⟩
    exact ⟨_, rfl, hv, Below.refl _ _, fun g h => by cases h⟩
  · refine (Clone_row g l.length c (cellsOf l) w (cellsOf_length l) hn (fun j u hu => ?_) (oneCells l)).mono ?_
    · rw [Lib.cell_of_heap hcur]
      rw [← h4, List.getElem?_take] at hu
      split at hu
      · simpa using hu
      · cases hu
    · rintro e w' ⟨v', rfl, k1, k2⟩
      refine ⟨v', rfl, ?_, k2, fun k hk => (World.ownsRow.lt k1 k hk).1⟩
      unfold RR
      refine ⟨k1.1, ?_⟩
      rcases k1.2 with h | ⟨g, c, cur, a1, _, a2⟩
      · exact Or.inl h
      · exact Or.inr ⟨g, c, cur, a1, Nat.zero_le _, a2⟩

set_option maxHeartbeats 4000000 in
set_option maxRecDepth 100000 in
theorem Delete_row (g c i n : Nat) (X : List Value) (cur : Array Value) (w : World) (hi : i < n) (hnc : n ≤ c) (hc63 : c ≤ 9223372036854775807) (hn : n ≤ 1000)
    (hX : X.length = n * 11) (h1X : ∀ v ∈ X, v.oneCell' = true) (hcur : Cells w g cur 30) (hcs : cur.size = c * 11) (hcX : cur.toList.take (n * 11) = X) :
    Calls Try.prog 53 #[.slice (some ⟨g, 0, none⟩) n c, .int .i64 i, .int .i64 (i + 1)] w fun e w' => e = .returned (.slice (some ⟨g, 0, none⟩) (n - 1) c) ∧ w' = (w.drew.setCells g (i * 11) (X.drop ((i + 1) * 11))).setCells g ((n - 1) * 11) zRu.cells.toList := by
  obtain ⟨i0, hi0, hz0, hzs, hzb⟩ := info_parts tRu
  have mixed : Try.prog.follows Departure.mixedOrders = true := by kernel_rfl
  obtain ⟨news, hnews⟩ : ∃ news, news = X.drop ((i + 1) * 11) := ⟨_, rfl⟩
  have hlen : news.length = (n - (i + 1)) * 11 := by rw [hnews, List.length_drop, hX]; omega
  have hcell : ∀ t u, news[t]? = some u → w.cell? ⟨g, (i + 1) * 11 + t, none⟩ = some u := fun t u hu => by
    rw [hnews, List.getElem?_drop, ← hcX, List.getElem?_take] at hu
    rw [Lib.cell_of_heap hcur]
    split at hu
    · simpa using hu
    · cases hu
  obtain ⟨A, hA, hsrc⟩ : ∃ A : Addr, (if c = i + 1 then some (⟨g, 0, none⟩ : Addr) else some ⟨g, (i + 1) * 11, none⟩) = some A ∧ Hid (∀ t u, news[t]? = some u → w.drew.cell? (A.add t) = some u) := by
    by_cases h : c = i + 1
    · refine ⟨⟨g, 0, none⟩, by simp [h], fun t u hu => ?_⟩
      have h0 : news.length = 0 := by rw [hlen]; omega
      rw [List.length_eq_zero_iff.1 h0] at hu
      simp at hu
    · refine ⟨⟨g, (i + 1) * 11, none⟩, by simp [h], fun t u hu => ?_⟩
      rw [Addr.add_lit]
      exact hcell t u hu
  have s1 : Hid (news.length = (n - (i + 1)) * 11) := hlen
  have s2 : Hid (∀ u ∈ news, u.oneCell' = true) := fun u hu => h1X u (List.mem_of_mem_drop (hnews ▸ hu))
  have s3 : Hid (∀ t, t < news.length → (w.drew.cell? ⟨g, 0 + i * 11 + t, none⟩).isSome = true ∧ w.drew.frozen? ⟨g, 0 + i * 11 + t, none⟩ = false) := by
    intro t ht
    rw [hlen] at ht
    refine ⟨?_, Cells.free (w := w) hcur _⟩
    show (w.cell? _).isSome = true
    rw [Lib.cell_of_heap hcur, Array.getElem?_eq_getElem (by omega)]; rfl
  obtain ⟨W1, hW1⟩ : ∃ W1, W1 = w.drew.setCells g (0 + i * 11) news := ⟨_, rfl⟩
  obtain ⟨cs1, c1, q1, _⟩ := Cells.setCells_ (T := 30) news (0 + i * 11) cur w.drew hcur (by omega)
  rw [← hW1] at c1
  have zs : (Builtin.zeroCells zRu.cells (n - (i + (n - (i + 1))))).toList = zRu.cells.toList := by
    rw [show n - (i + (n - (i + 1))) = 1 by omega]
    exact zRu_one
  have zl : zRu.cells.toList.length = 11 := by rfl
  have z1 : ∀ u ∈ zRu.cells.toList, u.oneCell' = true := by decide
  have hcl : ∀ ty, (Builtin.clear_ #[51] ty #[.slice (some ⟨g, (i + (n - (i + 1))) * 11, none⟩) (n - (i + (n - (i + 1)))) (c - (i + (n - (i + 1))))]).run Try.prog W1 = .ok (.tuple #[]) (W1.setCells g ((i + (n - (i + 1))) * 11) zRu.cells.toList) :=
    fun ty => run_clear_k W1 _ _ ty zRu tSl (fun w => by kernel_rfl) g _ _ _ _ zs z1 (by omega) (fun t ht => by rw [Lib.cell_of_heap c1, Array.getElem?_eq_getElem (by omega)]; rfl) (fun t ht => Cells.free c1 _)
  have hW : Hid (W1 = w.drew.setCells g (0 + i * 11) news) := hW1
  have hic : i ≤ c := by omega
  have hjc : i + 1 ≤ c := by omega
  have hji : (i : Int) + 1 ≤ (n : Int) := by omega
  have hb1 : (0 : Int) ≤ (i : Int) + 1 := by omega
  have htn : ((i : Int) + 1).toNat = i + 1 := by omega
  have NW := hide hnews
  clear zs zl z1
  generalize zRu.cells.toList = Z at hcl ⊢
  clear hW1 c1 q1 hcur hcs hcX hX h1X hnews hlen hcell
  go_enter Try.func53, Try.ntmps53
  go_wp2_with fail
  go_region_law_o (refine step_append_room rfl (.tmp 22) (.tmp 25) 51 rfl 30 i0 11 tSl hi0 hzs g 0 i c (by simp [Act.eval, Act.put]) A (n - (i + 1)) (c - (i + 1)) news (by simp [Act.eval, Act.put]) s1.out hsrc.out s2.out (by omega) s3.out ?_; rw [← hW.out])
  go_wp2
  go_ret
  refine ⟨by rw [show n - 1 = i + (n - (i + 1)) by omega]; rfl, ?_⟩
  rw [hW.out, NW.out, Nat.zero_add, show n - 1 = i + (n - (i + 1)) by omega]

theorem del_cells {w : World} {g c n i : Nat} {cur : Array Value} {X Z : List Value} {T : TypeId} (hi : i < n) (hnc : n ≤ c) (hX : X.length = n * 11) (hZ : Z.length = 11) (hcur : Cells w g cur T) (hs : cur.size = c * 11) (hc : cur.toList.take (n * 11) = X) :
    ∃ cs, Cells ((w.drew.setCells g (i * 11) (X.drop ((i + 1) * 11))).setCells g ((n - 1) * 11) Z) g cs T ∧ cs.size = c * 11 ∧ cs.toList.take ((n - 1) * 11) = X.take (i * 11) ++ X.drop ((i + 1) * 11) := by
  obtain ⟨cs1, c1, s1, t1⟩ := Cells.setCells_ (X.drop ((i + 1) * 11)) (i * 11) cur w.drew hcur (by rw [List.length_drop, hX]; omega)
  obtain ⟨cs2, c2, s2, t2⟩ := Cells.setCells_ Z ((n - 1) * 11) cs1 _ c1 (by omega)
  refine ⟨cs2, c2, by omega, List.ext_getElem? fun j => ?_⟩
  by_cases h : j < (n - 1) * 11
  · rw [List.getElem?_take_of_lt h, t2 j, t1 j, if_neg (by omega)]
    by_cases h1 : j < i * 11
    · rw [if_neg (by omega), List.getElem?_append_left (by rw [List.length_take]; omega), List.getElem?_take_of_lt h1, ← hc, List.getElem?_take_of_lt (by omega)]
    · rw [if_pos (by rw [List.length_drop, hX]; omega), List.getElem?_append_right (by rw [List.length_take]; omega), List.length_take, Nat.min_eq_left (by omega)]
  · rw [List.getElem?_eq_none (by rw [List.length_take]; omega), List.getElem?_eq_none (by simp only [List.length_append, List.length_take, List.length_drop]; omega)]

theorem DeleteRR (v : Value) (l : List Rule) (i : Nat) (w : World) (hv : RR w v l) (hi : i < l.length) (hn : l.length ≤ 1000) :
    Calls Try.prog 53 #[v, .int .i64 i, .int .i64 (i + 1)] w fun e w' => ∃ v', e = .returned v' ∧ RR w' v' (l.take i ++ l.drop (i + 1)) ∧ v'.ownBlock = v.ownBlock ∧ Only (fun k => v.ownBlock = some k) w w' := by
  have hv' := hv
  unfold RR at hv'
  rcases hv'.2 with ⟨_, h0⟩ | ⟨g, c, cur, rfl, _, hcur, h1, h2, h3, h4⟩
  · omega
  refine (Delete_row g c i l.length (cellsOf l) cur w hi h1 (by unfold maxLen at h2; omega) hn (cellsOf_length l) (oneCells l) hcur h3 h4).mono ?_
  rintro e w' ⟨rfl, rfl⟩
  obtain ⟨cs, k1, k2, k3⟩ := del_cells (w := w) (Z := zRu.cells.toList) hi h1 (cellsOf_length l) rfl hcur h3 h4
  refine ⟨_, rfl, RR.made k1 (by rw [List.length_append, List.length_take, List.length_drop]; omega) (by omega) h2 k2 (by rw [k3, cellsOf_append, cellsOf_take, cellsOf_drop]), rfl, ?_⟩
  exact Only.setCells_ _ _ _ (Only.setCells_ _ _ _ ⟨rfl, rfl, rfl, Nat.le_refl _, fun _ _ _ => rfl⟩ (Or.inl rfl)) (Or.inl rfl)
end Go.Proofs.Ytbboajhdijabbaa
