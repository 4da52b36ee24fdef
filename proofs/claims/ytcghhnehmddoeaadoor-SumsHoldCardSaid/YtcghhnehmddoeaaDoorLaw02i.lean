/- SumsHold: its walk of all rows. -/
import Derived.Test.YtcghhnehmddoeaaDoorLaw02h
set_option linter.unusedVariables false
namespace Go.Proofs.YtcghhnehmddoeaaDoor
open Go.RowKit
attribute [local go_sem] Oper.semAt_some

set_option maxHeartbeats 1000000 in
theorem SumsHold_far (A A2 : Option Addr) (n c n2 c2 : Nat) (a0 a1 : Int) (w : World) (hn : n ≤ 9223372036854775807) (hn' : n2 ≤ 9223372036854775807) (hg : n = 0 ∨ 100 < n ∨ n < n2) :
    Calls Tryd.prog 4 #[.slice A n c, .slice A2 n2 c2, .agg #[.int .u8 a0, .int .u8 a1]] w (Ret (.bool true) w) := by
  by_cases g : 100 < n
  · have g1 : (100 : Int) < (n : Int) := by omega
    clear hg
    go_enter Tryd.func4, Tryd.ntmps4
    go_wp2_with fail
    (with_reducible refine (summed _).mono ?_)
    rintro e w1 ⟨rfl, b1⟩
    replace b1 : Below w.heap.size w w1 := by (refine bstep ?_ b1); (repeat' (first | with_reducible exact Below.refl _ _ | with_reducible refine Below.setCell ?_ (by first | exact Nat.le_refl _ | (dsimp only; omega)) _ | with_reducible refine bstep ?_ (fresh_below _ _) | with_reducible refine Below.drew ?_))
    have z1 : w.heap.size ≤ w1.heap.size := b1.size
    go_wp2_with fail
    go_ret
    exact ⟨rfl, (by (repeat' (first | with_reducible exact b1 | with_reducible exact Below.refl _ _ | with_reducible refine Below.setCell ?_ (by first | exact Nat.le_refl _ | (dsimp only; omega)) _ | with_reducible refine bstep ?_ (fresh_below _ _) | with_reducible refine Below.drew ?_)))⟩
  · have g1 : ¬ (100 : Int) < (n : Int) := by omega
    by_cases g0 : n = 0
    · subst g0
      clear hg g
      go_enter Tryd.func4, Tryd.ntmps4
      go_wp2_with fail
      (with_reducible refine (summed _).mono ?_)
      rintro e w1 ⟨rfl, b1⟩
      replace b1 : Below w.heap.size w w1 := by (refine bstep ?_ b1); (repeat' (first | with_reducible exact Below.refl _ _ | with_reducible refine Below.setCell ?_ (by first | exact Nat.le_refl _ | (dsimp only; omega)) _ | with_reducible refine bstep ?_ (fresh_below _ _) | with_reducible refine Below.drew ?_))
      have z1 : w.heap.size ≤ w1.heap.size := b1.size
      go_wp2_with fail
      go_ret
      exact ⟨rfl, (by (repeat' (first | with_reducible exact b1 | with_reducible exact Below.refl _ _ | with_reducible refine Below.setCell ?_ (by first | exact Nat.le_refl _ | (dsimp only; omega)) _ | with_reducible refine bstep ?_ (fresh_below _ _) | with_reducible refine Below.drew ?_)))⟩
    · have g2 : (n : Int) < (n2 : Int) := by omega
      have g3 : ((n : Int) == 0) = false := by simp; omega
      clear hg g
      go_enter Tryd.func4, Tryd.ntmps4
      go_wp2_with fail
      (with_reducible refine (summed _).mono ?_)
      rintro e w1 ⟨rfl, b1⟩
      replace b1 : Below w.heap.size w w1 := by (refine bstep ?_ b1); (repeat' (first | with_reducible exact Below.refl _ _ | with_reducible refine Below.setCell ?_ (by first | exact Nat.le_refl _ | (dsimp only; omega)) _ | with_reducible refine bstep ?_ (fresh_below _ _) | with_reducible refine Below.drew ?_))
      have z1 : w.heap.size ≤ w1.heap.size := b1.size
      go_wp2_with fail
      go_ret
      exact ⟨rfl, (by (repeat' (first | with_reducible exact b1 | with_reducible exact Below.refl _ _ | with_reducible refine Below.setCell ?_ (by first | exact Nat.le_refl _ | (dsimp only; omega)) _ | with_reducible refine bstep ?_ (fresh_below _ _) | with_reducible refine Below.drew ?_)))⟩

set_option maxHeartbeats 4000000 in
theorem SumsHold_walk (A : Option Addr) (n c : Nat) (l : List Int) (A2 : Option Addr) (n2 c2 : Nat) (m : List Int) (a0 a1 : Int) (w : World) (hK : True) (hr : Row w w.heap.size A n (l.map (Value.int .u16))) (hl : ∀ x ∈ l, 0 ≤ x ∧ x ≤ 65535) (hn : n ≤ 9223372036854775807)
    (hr2 : Row w w.heap.size A2 n2 (m.map (Value.int .u16))) (hml : ∀ x ∈ m, 0 ≤ x ∧ x ≤ 65535) (hn' : n2 ≤ 9223372036854775807) (ha0 : 0 ≤ a0 ∧ a0 ≤ 255) (ha1 : 0 ≤ a1 ∧ a1 ≤ 255) :
    Calls Tryd.prog 4 #[.slice A n c, .slice A2 n2 c2, .agg #[.int .u8 a0, .int .u8 a1]] w (Ret (.bool true) w) := by
  by_cases hg : n = 0 ∨ 100 < n ∨ n < n2
  · exact SumsHold_far A A2 n c n2 c2 a0 a1 w hn hn' hg
  have hlen : l.length = n := by simpa using hr.1
  have hlm : m.length = n2 := by simpa using hr2.1
  obtain ⟨bk, o, rfl, hb, hcs⟩ := hr.2 (by omega)
  obtain ⟨k, hk⟩ : ∃ k : Nat, a0 % (n : Int) = k := ⟨(a0 % (n : Int)).toNat, (Int.toNat_of_nonneg (Int.emod_nonneg _ (by omega))).symm⟩
  have hkn : k < n := by
    have := Int.emod_lt_of_pos a0 (show 0 < (n : Int) by omega)
    omega
  obtain ⟨f, hf⟩ : ∃ f : Nat, a1 % ((n : Int) - (n2 : Int) + 1) = f := ⟨(a1 % ((n : Int) - (n2 : Int) + 1)).toNat, (Int.toNat_of_nonneg (Int.emod_nonneg _ (by omega))).symm⟩
  have hfn : f + n2 ≤ n := by
    have := Int.emod_lt_of_pos a1 (show 0 < (n : Int) - (n2 : Int) + 1 by omega)
    omega
  obtain ⟨q1, q2, q3, -, q5⟩ := holdSt_ok hl hml (show f + m.length ≤ l.length by omega) (show k < l.length by omega) n2 (by omega)
  obtain ⟨N, hN⟩ : ∃ N, N = (holdSt l m f k n2).2 := ⟨_, rfl⟩
  obtain ⟨s, hs⟩ : ∃ s, s = (holdSt l m f k n2).1 := ⟨_, rfl⟩
  rw [← hs] at q1
  rw [← hN] at q2 q3
  rw [← hN, ← hs] at q5
  have hkN : k < N.length := by omega
  have b1 := set_bd q3 (k := k) (y := s) q1
  have b0 := set_bd q3 (k := k) (y := 0) (by omega)
  have hv := sumL_bd [L (S (putW (N.set k 0)))]
  have bv := set_bd q3 (k := k) (y := sumL [L (S (putW (N.set k 0)))]) hv
  have hown := hold_own q3 hkN
  rw [List.set_set] at hown
  have z1 : (S (putW l)).size = 2 * n := by rw [S_size, putW_length, hlen]
  have z2 : (S (putW (N.set k s))).size = 2 * n := by rw [S_size, putW_length, List.length_set]; omega
  have z3 : (S (putW (N.set k 0))).size = 2 * n := by rw [S_size, putW_length, List.length_set]; omega
  have z4 : (S (putW (N.set k (sumL [L (S (putW (N.set k 0)))])))).size = 2 * n := by rw [S_size, putW_length, List.length_set]; omega
  have c1 := fun W A cc hr => Word A n cc l W hr hl (by omega)
  have c2' := fun W A cc hr => Word A n cc (N.set k s) W hr b1 (by omega)
  have c3 := fun W A cc hr => Word A n cc (N.set k 0) W hr b0 (by omega)
  have c4 := fun (W : World) => Sum (some ⟨W.heap.size, 0, none⟩) 1 1 [S (putW (N.set k 0))] _ (Row.freshN W #[.string (S (putW (N.set k 0)))] 9 _ _ rfl rfl) (by simp; omega) (by omega)
  have c5 := fun W A cc hr => Word A n cc (N.set k (sumL [L (S (putW (N.set k 0)))])) W hr bv (by omega)
  have c6 := fun (W : World) => Holds (some ⟨W.heap.size, 0, none⟩) 1 1 [S (putW (N.set k (sumL [L (S (putW (N.set k 0)))])))] _ (Row.freshN W #[.string (S (putW (N.set k (sumL [L (S (putW (N.set k 0)))]))))] 9 _ _ rfl rfl) (by simp; omega) (by omega)
  simp only [List.map_cons, List.map_nil] at c4 c6
  rw [hown] at c6
  have e1 := fun W => void_walk (S (putW l)) W (by omega)
  have e2 := fun W => void_walk (S (putW (N.set k s))) W (by omega)
  rw [hN, hs] at c2'
  rw [hN] at c3 c4 c5 c6
  by_cases h1 : trim0 (S (putW l)) = { data := #[] }
  · exact SumsHold_A bk o n c n2 c2 k f A2 l m a0 a1 _ _ _ _ _ _ _ w hr hr2 hlen hlm (by omega) (by omega) (by omega) hl hml ha0 ha1 hk hkn hf hfn z1 c1 c2' c3 c4 c5 c6 e1 (by rw [hN, hs] at e2; exact e2) (decide_eq_true h1)
  by_cases h2 : trim0 (S (putW (N.set k s))) = { data := #[] }
  · have d2 := decide_eq_true h2
    rw [hN, hs] at e2 d2
    exact SumsHold_B bk o n c n2 c2 k f A2 l m a0 a1 _ _ _ _ _ _ _ w hr hr2 hlen hlm (by omega) (by omega) (by omega) hl hml ha0 ha1 hk hkn hf hfn z1 c1 c2' c3 c4 c5 c6 e1 e2 (decide_eq_false h1) d2
  · have hsame := hold_same hl b1 q5 h1 h2
    have g1 := fun (W : World) => Holds (some ⟨W.heap.size, 0, none⟩) 1 1 [S (putW l)] _ (Row.freshN W #[.string (S (putW l))] 9 _ _ rfl rfl) (by simp; omega) (by omega)
    have g2 := fun (W : World) => Holds (some ⟨W.heap.size, 0, none⟩) 1 1 [S (putW (N.set k s))] _ (Row.freshN W #[.string (S (putW (N.set k s)))] 9 _ _ rfl rfl) (by simp; omega) (by omega)
    simp only [List.map_cons, List.map_nil] at g1 g2
    rw [hsame] at g2
    have d2 := decide_eq_false h2
    rw [hN, hs] at e2 d2 g2
    exact SumsHold_C bk o n c n2 c2 k f A2 l m a0 a1 _ _ _ _ _ _ _ w hr hr2 hlen hlm (by omega) (by omega) (by omega) hl hml ha0 ha1 hk hkn hf hfn z1 c1 c2' c3 c4 c5 c6 e1 e2 (decide_eq_false h1) d2 _ g1 g2
end Go.Proofs.YtcghhnehmddoeaaDoor
