/- Several texts of this claim, one behind the other. -/
import Derived.Test.YtilfcikhipadpaaDoorM7
import Derived.Deep.RegionLaw

section
/- rules: slices.Insert at rules: all of it. -/
set_option linter.unusedVariables false
set_option linter.unusedSimpArgs false
namespace Go.Proofs.YtilfcikhipadpaaDoor
open Go.RowKit Go.Lib
attribute [local go_sem] Oper.semAt_some

theorem RR.made {W : World} {g c n : Nat} {cs : Array Value} {l : List Rule} (h : Cells W g cs 77) (hn : l.length = n) (hc : n ≤ c) (hm : c ≤ maxLen) (hs : cs.size = c * 11) (ht : cs.toList.take (n * 11) = cellsOf l) : RR W (.slice (some ⟨g, 0, none⟩) n c) l := by
  unfold RR
  rw [hn]
  exact ⟨by rw [cellsOf_length, hn], Or.inr ⟨g, c, cs, rfl, Nat.zero_le _, h, hc, hm, hs, ht⟩⟩

theorem shift_cells {w : World} {g c n i : Nat} {cur : Array Value} {X R : List Value} {T : TypeId} (hi : i ≤ n) (hroom : n + 1 ≤ c) (hX : X.length = n * 11) (hR : R.length = 11) (hcur : Cells w g cur T) (hs : cur.size = c * 11) (hc : cur.toList.take (n * 11) = X) :
    ∃ cs, Cells ((w.drew.setCells g ((i + 1) * 11) (X.drop (i * 11))).setCells g (i * 11) R) g cs T ∧ cs.size = c * 11 ∧ cs.toList.take ((n + 1) * 11) = X.take (i * 11) ++ (R ++ X.drop (i * 11)) := by
  obtain ⟨cs1, c1, s1, t1⟩ := Cells.setCells_ (X.drop (i * 11)) ((i + 1) * 11) cur w.drew hcur (by rw [List.length_drop, hX]; omega)
  obtain ⟨cs2, c2, s2, t2⟩ := Cells.setCells_ R (i * 11) cs1 _ c1 (by omega)
  refine ⟨cs2, c2, by omega, put_row hi hX hR (fun j hj => ?_) (by rw [Array.length_toList]; omega)⟩
  rw [t2 j, t1 j, List.length_drop, hX, hR, show n * 11 - i * 11 = (n - i) * 11 by omega]
  by_cases h1 : i * 11 ≤ j ∧ j < i * 11 + 11
  · rw [if_pos h1, if_pos h1]
  · rw [if_neg h1, if_neg h1]
    by_cases h2 : (i + 1) * 11 ≤ j ∧ j < (i + 1) * 11 + (n - i) * 11
    · rw [if_pos h2, if_pos h2]
    · rw [if_neg h2, if_neg h2, ← hc, List.getElem?_take_of_lt (by omega)]
theorem grow_cells {w : World} {g G n i : Nat} {ROW : Array Value} {X R : List Value} {T : TypeId} (hi : i ≤ n) (hroom : n + 1 ≤ G) (hX : X.length = n * 11) (hR : R.length = 11) (hcur : Cells w g ROW T) (hs : ROW.size = G * 11) (hc : ∀ j, j < i * 11 → ROW.toList[j]? = X[j]?) :
    ∃ cs, Cells ((w.setCells g (i * 11) R).drew.setCells g ((i + 1) * 11) (X.drop (i * 11))) g cs T ∧ cs.size = G * 11 ∧ cs.toList.take ((n + 1) * 11) = X.take (i * 11) ++ (R ++ X.drop (i * 11)) := by
  obtain ⟨cs1, c1, s1, t1⟩ := Cells.setCells_ R (i * 11) ROW w hcur (by omega)
  obtain ⟨cs2, c2, s2, t2⟩ := Cells.setCells_ (X.drop (i * 11)) ((i + 1) * 11) cs1 (w.setCells g (i * 11) R).drew c1 (by rw [List.length_drop, hX]; omega)
  refine ⟨cs2, c2, by omega, put_row hi hX hR (fun j hj => ?_) (by rw [Array.length_toList]; omega)⟩
  rw [t2 j, t1 j, List.length_drop, hX, hR, show n * 11 - i * 11 = (n - i) * 11 by omega]
  by_cases h2 : (i + 1) * 11 ≤ j ∧ j < (i + 1) * 11 + (n - i) * 11
  · rw [if_pos h2, if_neg (by omega), if_pos h2]
  · rw [if_neg h2]
    by_cases h1 : i * 11 ≤ j ∧ j < i * 11 + 11
    · rw [if_pos h1, if_pos h1]
    · rw [if_neg h1, if_neg h1, if_neg h2, hc j (by omega)]
theorem row_head {X Z Z' : List Value} {k j : Nat} (hk : k ≤ X.length) (hj : j < k) : (X.take k ++ Z ++ Z')[j]? = X[j]? := by
  rw [List.append_assoc, List.getElem?_append_left (by rw [List.length_take]; omega), List.getElem?_take_of_lt hj]

set_option maxHeartbeats 1000000 in
theorem InsertR (v : Value) (l : List Rule) (i : Nat) (r : Rule) (vb : Nat) (w : World) (hv : RR w v l) (hi : i ≤ l.length) (hn : l.length ≤ 1000) (hvb : v.ownBlock ≠ some vb) (hr : Cells w vb r.cells 77) :
    Calls Tryd.prog 35 #[v, .int .i64 i, .slice (some ⟨vb, 0, none⟩) 1 1] w fun e w' => ∃ v', e = .returned v' ∧ RR w' v' (l.take i ++ r :: l.drop i) ∧ Only (fun k => v.ownBlock = some k) w w' ∧ (v'.ownBlock = v.ownBlock ∨ ∃ g, w.heap.size ≤ g ∧ v'.ownBlock = some g) := by
  by_cases e : i = l.length
  · subst e
    refine (Insert_end v l r vb w hv hn fun j u hj => by rw [Lib.cell_of_heap hr]; simpa using hj).mono ?_
    rintro e' w' ⟨v', he, h1, h2, h3⟩
    refine ⟨v', he, by rw [List.take_length, List.drop_length]; exact h1, Only.grown (Only.refl _ _) h2 fun k hk => Or.inl hk, ?_⟩
    rcases h3 with h3 | h3
    · exact Or.inl h3
    · exact Or.inr ⟨_, Nat.le_refl _, h3⟩
  · have hlt : i < l.length := by omega
    have hv' := hv
    unfold RR at hv'
    rcases hv'.2 with ⟨_, h0⟩ | ⟨g, c, cur, rfl, _, hcur, h1, h2, h3, h4⟩
    · omega
    have hg : vb ≠ g := by rintro rfl; exact hvb rfl
    have hX := cellsOf_length l
    have h1X := oneCells l
    have h1R := oneCell1 r
    have hR := cells11 r
    have hr' : Cells w vb r.cells.toList.toArray 77 := by simpa using hr
    have hins : (l.take i ++ r :: l.drop i).length = l.length + 1 := by
      rw [List.length_append, List.length_cons, List.length_take, List.length_drop]; omega
    have hl : l.length = l.length := rfl
    have key : ∀ (W : World) g' c' cs, Cells W g' cs 77 → l.length + 1 ≤ c' → c' ≤ maxLen → cs.size = c' * 11 → cs.toList.take ((l.length + 1) * 11) = (cellsOf l).take (i * 11) ++ (r.cells.toList ++ (cellsOf l).drop (i * 11)) → RR W (.slice (some ⟨g', 0, none⟩) (l.length + 1) c') (l.take i ++ r :: l.drop i) := fun W g' c' cs k1 k2 k3 k4 k5 => RR.made k1 hins k2 k3 k4 (by rw [cellsOf_insert]; exact k5)
    generalize l.take i ++ r :: l.drop i = L at key ⊢
    generalize cellsOf l = X at *
    generalize l.length = n at *
    generalize r.cells.toList = R at *
    clear hr hl hv' hv
    by_cases hroom : n + 1 ≤ c
    · refine (Insert_shift0 g c i n vb X R cur w hlt hroom hn (by unfold maxLen at h2; omega) hg hX hR h1X h1R hcur h3 h4 hr').mono ?_
      rintro e' w' ⟨rfl, rfl⟩
      obtain ⟨cs, k1, k2, k3⟩ := shift_cells hi hroom hX hR hcur h3 h4
      exact ⟨_, rfl, key _ _ _ _ k1 hroom h2 k2 k3, Only.setCells_ _ _ _ (Only.setCells_ _ _ _ ⟨rfl, rfl, rfl, Nat.le_refl _, fun _ _ _ => rfl⟩ (Or.inl rfl)) (Or.inl rfl), Or.inl rfl⟩
    · have hc : c = n := by omega
      subst hc
      refine (Insert_grow0 g i c vb X R cur w hlt hn hX hR h1X h1R hcur h3 h4 hr').mono ?_
      rintro e' w' ⟨G, g1, g2, rfl, rfl⟩
      have s0 : ((X.take (i * 11)).toArray ++ Builtin.zeroCells zRu.cells (c + 1 - i) ++ Builtin.zeroCells zRu.cells (G - (c + 1))).size = G * 11 := by
        simp only [Array.size_append, List.size_toArray, List.length_take, hX, size_zeroCells, zRu_cells]
        omega
      have t0 : ∀ j, j < i * 11 → ((X.take (i * 11)).toArray ++ Builtin.zeroCells zRu.cells (c + 1 - i) ++ Builtin.zeroCells zRu.cells (G - (c + 1))).toList[j]? = X[j]? := fun j hj => by
        rw [Array.toList_append, Array.toList_append]
        exact row_head (by omega) hj
      generalize ((X.take (i * 11)).toArray ++ Builtin.zeroCells zRu.cells (c + 1 - i) ++ Builtin.zeroCells zRu.cells (G - (c + 1))) = ROW at s0 t0 ⊢
      have c0 := Cells.new w ROW 77
      have o0 : Only (fun k => (Value.slice (some ⟨g, 0, none⟩) c c).ownBlock = some k) w (w.alloc (.cells ROW 77)) := Only.of_below ((Below.refl _ _).alloc (Nat.le_refl _) _) (Nat.le_refl _)
      obtain ⟨cs, k1, k2, k3⟩ := grow_cells (w := (w.alloc (.cells ROW 77)).drew) hi g1 hX hR c0 s0 t0
      refine ⟨_, rfl, key _ _ _ _ k1 g1 g2 k2 k3, Only.setCells_ _ _ _ ?_ (Or.inr (Nat.le_refl _)), Or.inr ⟨_, Nat.le_refl _, rfl⟩⟩
      have o1 := Only.setCells_ R (i * 11) (w.alloc (.cells ROW 77)).drew (b := w.heap.size) (X := fun k => (Value.slice (some ⟨g, 0, none⟩) c c).ownBlock = some k) (A := w) ⟨o0.os, o0.tape, o0.output, o0.size, o0.block⟩ (Or.inr (Nat.le_refl _))
      exact ⟨o1.os, o1.tape, o1.output, o1.size, o1.block⟩
end Go.Proofs.YtilfcikhipadpaaDoor
end

section
/- rules: slices.Clone, slices.Delete at rules. -/
set_option linter.unusedVariables false
set_option linter.unusedSimpArgs false
namespace Go.Proofs.YtilfcikhipadpaaDoor
open Go.RowKit Go.Lib
attribute [local go_sem] Oper.semAt_some

theorem zRu_one : (Builtin.zeroCells zRu.cells 1).toList = zRu.cells.toList := by kernel_rfl
/-- a value's own block, fresh: behind 'B' -/
def Fresh (B : Nat) (v : Value) : Prop := ∀ g, v.ownBlock = some g → B ≤ g

theorem del_cells {w : World} {g c n i : Nat} {cur : Array Value} {X Z : List Value} {T : TypeId} (hi : i < n) (hnc : n ≤ c) (hX : X.length = n * 11) (hZ : Z.length = 11) (hcur : Cells w g cur T) (hs : cur.size = c * 11) (hc : cur.toList.take (n * 11) = X) :
    ∃ cs, Cells ((w.drew.setCells g (i * 11) (X.drop ((i + 1) * 11))).setCells g ((n - 1) * 11) Z) g cs T ∧ cs.size = c * 11 ∧ cs.toList.take ((n - 1) * 11) = X.take (i * 11) ++ X.drop ((i + 1) * 11) := by
  obtain ⟨cs1, c1, s1, t1⟩ := Cells.setCells_ (X.drop ((i + 1) * 11)) (i * 11) cur w.drew hcur (by rw [List.length_drop, hX]; omega)
  obtain ⟨cs2, c2, s2, t2⟩ := Cells.setCells_ Z ((n - 1) * 11) cs1 _ c1 (by omega)
  refine ⟨cs2, c2, by omega, List.ext_getElem? fun j => ?_⟩
  by_cases h : j < (n - 1) * 11
  · rw [List.getElem?_take_of_lt h, t2 j, t1 j, if_neg (by omega)]
    by_cases h1 : j < i * 11
    · rw [if_neg (by omega), List.getElem?_append_left (by rw [List.length_take]; omega), List.getElem?_take_of_lt h1, ← hc, List.getElem?_take_of_lt (by omega)]
    · rw [if_pos (by rw [List.length_drop, hX]; omega), List.getElem?_append_right (by rw [List.length_take]; omega), List.length_take, Nat.min_eq_left (by omega)]
  · rw [List.getElem?_eq_none (by rw [List.length_take]; omega), List.getElem?_eq_none (by simp only [List.length_append, List.length_take, List.length_drop]; omega)]

end Go.Proofs.YtilfcikhipadpaaDoor
end
