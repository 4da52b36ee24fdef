/- SumsSpoilt: its walk of every row. -/
import Derived.Test.YtcghhnehmddoeaaDoorLaw02s
set_option linter.unusedVariables false
namespace Go.Proofs.YtcghhnehmddoeaaDoor
open Go.RowKit
attribute [local go_sem] Oper.semAt_some

set_option maxHeartbeats 1000000 in
theorem SumsSpoilt_far (A : Option Addr) (n c : Nat) (at_ y : Int) (w : World) (hn : n ≤ 9223372036854775807) (hg : n = 0 ∨ 200 < n) :
    Calls Tryd.prog 3 #[.slice A n c, .int .u8 at_, .int .u16 y] w (Ret (.bool true) w) := by
  by_cases g : 200 < n
  · have g1 : (200 : Int) < (n : Int) := by omega
    clear hg
    go_enter Tryd.func3, Tryd.ntmps3
    go_wp2_with fail
    (with_reducible refine (summed _).mono ?_)
    rintro e w1 ⟨rfl, b1⟩
    replace b1 : Below w.heap.size w w1 := by (refine bstep ?_ b1); (repeat' (first | with_reducible exact Below.refl _ _ | with_reducible refine Below.setCell ?_ (by first | exact Nat.le_refl _ | (dsimp only; omega)) _ | with_reducible refine bstep ?_ (fresh_below _ _) | with_reducible refine Below.drew ?_))
    have z1 : w.heap.size ≤ w1.heap.size := b1.size
    go_wp2_with fail
    go_ret
    exact ⟨rfl, (by (repeat' (first | with_reducible exact b1 | with_reducible exact Below.refl _ _ | with_reducible refine Below.setCell ?_ (by first | exact Nat.le_refl _ | (dsimp only; omega)) _ | with_reducible refine bstep ?_ (fresh_below _ _) | with_reducible refine Below.drew ?_)))⟩
  · obtain rfl : n = 0 := by omega
    clear hg g
    go_enter Tryd.func3, Tryd.ntmps3
    go_wp2_with fail
    (with_reducible refine (summed _).mono ?_)
    rintro e w1 ⟨rfl, b1⟩
    replace b1 : Below w.heap.size w w1 := by (refine bstep ?_ b1); (repeat' (first | with_reducible exact Below.refl _ _ | with_reducible refine Below.setCell ?_ (by first | exact Nat.le_refl _ | (dsimp only; omega)) _ | with_reducible refine bstep ?_ (fresh_below _ _) | with_reducible refine Below.drew ?_))
    have z1 : w.heap.size ≤ w1.heap.size := b1.size
    go_wp2_with fail
    go_ret
    exact ⟨rfl, (by (repeat' (first | with_reducible exact b1 | with_reducible exact Below.refl _ _ | with_reducible refine Below.setCell ?_ (by first | exact Nat.le_refl _ | (dsimp only; omega)) _ | with_reducible refine bstep ?_ (fresh_below _ _) | with_reducible refine Below.drew ?_)))⟩

set_option maxHeartbeats 2000000 in
theorem SumsSpoilt_walk (A : Option Addr) (n c : Nat) (l : List Int) (at_ y : Int) (w : World) (hK : True) (hr : Row w w.heap.size A n (l.map (Value.int .u16))) (hl : ∀ x ∈ l, 0 ≤ x ∧ x ≤ 65535) (hn : n ≤ 9223372036854775807) (ha : 0 ≤ at_ ∧ at_ ≤ 255) (hy : 0 ≤ y ∧ y ≤ 65535) :
    Calls Tryd.prog 3 #[.slice A n c, .int .u8 at_, .int .u16 y] w (Ret (.bool true) w) := by
  by_cases hg : n = 0 ∨ 200 < n
  · exact SumsSpoilt_far A n c at_ y w hn hg
  have hlen : l.length = n := by simpa using hr.1
  obtain ⟨bk, o, rfl, hb, hcs⟩ := hr.2 (by omega)
  obtain ⟨k, hk⟩ : ∃ k : Nat, at_ % (n : Int) = k := ⟨(at_ % (n : Int)).toNat, (Int.toNat_of_nonneg (Int.emod_nonneg _ (by omega))).symm⟩
  have hkn : k < n := by
    have := Int.emod_lt_of_pos at_ (show 0 < (n : Int) by omega)
    omega
  have hkl : k < l.length := by omega
  have hxb := hl _ (getD_mem hkl)
  have hl0 := set_bd hl (k := k) (y := 0) (by omega)
  have hly := set_bd hl (k := k) (y := y) hy
  have z1 : (S (putW (l.set k 0))).size = 2 * n := by rw [S_size, putW_length, List.length_set, hlen]
  have z2 : (S (putW l)).size = 2 * n := by rw [S_size, putW_length, hlen]
  have z3 : (S (putW (l.set k y))).size = 2 * n := by rw [S_size, putW_length, List.length_set, hlen]
  have c1 := fun W A cc hr => Word A n cc (l.set k 0) W hr hl0 (by omega)
  have c2 := fun W => void_walk (S (putW (l.set k 0))) W (by omega)
  have c3 := fun W A cc hr => Word A n cc l W hr hl (by omega)
  have c4 := fun W A cc hr => Word A n cc (l.set k y) W hr hly (by omega)
  have c5 := fun (W : World) => Sum (some ⟨W.heap.size, 0, none⟩) 1 1 [S (putW l)] _ (Row.freshN W #[.string (S (putW l))] 9 _ _ rfl rfl) (by simp; omega) (by omega)
  have c6 := fun (W : World) => Sum (some ⟨W.heap.size, 0, none⟩) 1 1 [S (putW (l.set k y))] _ (Row.freshN W #[.string (S (putW (l.set k y)))] 9 _ _ rfl rfl) (by simp; omega) (by omega)
  simp only [List.map_cons, List.map_nil] at c5 c6
  have hsp := spoilt hl hkl hy
  have hrr : Row w w.heap.size (some ⟨bk, o, none⟩) n (ints16 l) := hr
  by_cases h1 : l.getD k 0 = y
  · exact SumsSpoilt_a bk o n c k l at_ y _ _ _ _ _ _ _ w hrr hlen (by omega) (by omega) ha hk hkn rfl hxb hy c1 c2 c3 c4 c5 c6 h1 (by simpa using hsp.2 (Or.inl h1))
  by_cases h2 : l.getD k 0 % 65535 = y % 65535
  · by_cases h3 : trim0 (S (putW (l.set k 0))) = { data := #[] }
    · refine SumsSpoilt_c bk o n c k l at_ y _ _ _ _ _ _ _ w hrr hlen (by omega) (by omega) ha hk hkn rfl hxb hy c1 c2 c3 c4 c5 c6 h1 h2 (decide_eq_true h3) ?_
      have : ¬ sumL [L (S (putW l))] = sumL [L (S (putW (l.set k y)))] := fun e => by
        rcases hsp.1 e with e | ⟨_, e⟩
        · exact h1 e
        · exact e h3
      simpa using this
    · exact SumsSpoilt_b bk o n c k l at_ y _ _ _ _ _ _ _ w hrr hlen (by omega) (by omega) ha hk hkn rfl hxb hy c1 c2 c3 c4 c5 c6 h1 h2 (decide_eq_false h3) (by simpa using hsp.2 (Or.inr ⟨h2, h3⟩))
  · refine SumsSpoilt_d bk o n c k l at_ y _ _ _ _ _ _ _ w hrr hlen (by omega) (by omega) ha hk hkn rfl hxb hy c1 c2 c3 c4 c5 c6 h1 h2 ?_
    have : ¬ sumL [L (S (putW l))] = sumL [L (S (putW (l.set k y)))] := fun e => by
      rcases hsp.1 e with e | ⟨e, _⟩
      · exact h1 e
      · exact h2 e
    simpa using this
end Go.Proofs.YtcghhnehmddoeaaDoor
