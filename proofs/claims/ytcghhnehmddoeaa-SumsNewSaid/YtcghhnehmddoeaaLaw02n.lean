/- SumsNew walked: it returns true and leaves what lay there as it lay. -/
import Derived.Test.YtcghhnehmddoeaaLaw02
import Derived.Test.YtcghhnehmddoeaaSumLaw
set_option linter.unusedVariables false
namespace Go.Proofs.Ytcghhnehmddoeaa
open Go.RowKit

set_option maxHeartbeats 2000000 in
theorem SumsNew_walk (A : Option Addr) (n c : Nat) (l : List Int) (A' : Option Addr) (n' c' : Nat) (m : List Int) (i : Int) (w : World) (hr : Row w w.heap.size A n (l.map (Value.int .u16))) (hl : ∀ x ∈ l, 0 ≤ x ∧ x ≤ 65535) (hn : n ≤ 9223372036854775807) (hr' : Row w w.heap.size A' n' (m.map (Value.int .u16))) (hm : ∀ x ∈ m, 0 ≤ x ∧ x ≤ 65535) (hn' : n' ≤ 9223372036854775807) (hi : 0 ≤ i ∧ i ≤ 255) :
    Calls Try.prog 13 #[.slice A n c, .slice A' n' c', .int .u8 i] w (Ret (.bool true) w) := by
  obtain ⟨i1, i2⟩ := hi
  have hlen : l.length = n := by simpa using hr.1
  have hlen' : m.length = n' := by simpa using hr'.1
  by_cases g : n ≤ 100 ∧ n' ≤ n
  · obtain ⟨g1, g2⟩ := g
    obtain ⟨k, hk⟩ : ∃ k : Nat, i % ((n : Int) - (n' : Int) + 1) = k :=
      ⟨(i % ((n : Int) - (n' : Int) + 1)).toNat, (Int.toNat_of_nonneg (Int.emod_nonneg _ (by omega))).symm⟩
    have hkb : k + n' ≤ n := by
      have := Int.emod_lt_of_pos i (show 0 < (n : Int) - (n' : Int) + 1 by omega)
      omega
    have zs : (S (putW l)).size = 2 * n := by rw [S_size, putW_length, hlen]
    have zp : (S (putW m)).size = 2 * n' := by rw [S_size, putW_length, hlen']
    have cw := fun w => With_in (S (putW l)) (2 * k) (S (putW m)) w (by rw [zs]; omega) (by rw [zs, zp]; omega)
    obtain ⟨s, hs⟩ : ∃ s, s = S (putW l) := ⟨_, rfl⟩
    obtain ⟨p, hp⟩ : ∃ p, p = S (putW m) := ⟨_, rfl⟩
    rw [← hs, ← hp] at cw
    rw [← hs] at zs
    rw [← hp] at zp
    obtain ⟨t, ht⟩ : ∃ t, t = S ((L s).take (2 * k) ++ (L p ++ (L s).drop (2 * k + p.size))) := ⟨_, rfl⟩
    rw [← ht] at cw
    have zt : t.size = 2 * n := by rw [ht, S_size, List.length_append, List.length_append, List.length_take, List.length_drop, L_length, L_length]; omega
    have hmod := updates_new (a := L s) (b := L t) (by rw [L_length, L_length, zs, zt]) (by rw [L_length, zs]; omega)
    have hb1 := sumL_bd [L s]
    have hb2 := sumL_bd [L t]
    have hb3 := updates_bd (a := L s) (b := L t) hb1
    have c1 := fun w hr => Word A n c l w hr hl (by omega)
    have c2 := fun w hr => Word A' n' c' m w hr hm (by omega)
    rw [← hs] at c1
    rw [← hp] at c2
    have c3 := fun (w : World) => Sum (some ⟨w.heap.size, 0, none⟩) 1 1 [s] _ (Row.freshN w #[.string s] 9 _ _ rfl rfl) (by simp; omega) (by omega)
    have c4 := fun w => Updates (sumL [L s]) s t w hb1 (by omega) (by omega)
    have c5 := fun (w : World) => Sum (some ⟨w.heap.size, 0, none⟩) 1 1 [t] _ (Row.freshN w #[.string t] 9 _ _ rfl rfl) (by simp; omega) (by omega)
    simp only [List.map_cons, List.map_nil] at c3 c5
    obtain ⟨x, hx⟩ : ∃ x, x = updates (sumL [L s]) (L s) (L t) := ⟨_, rfl⟩
    obtain ⟨y, hy⟩ : ∃ y, y = sumL [L t] := ⟨_, rfl⟩
    rw [← hx] at hmod hb3 c4
    rw [← hy] at hmod hb2 c5
    obtain ⟨x0, x1⟩ := hb3
    obtain ⟨y0, y1⟩ := hb2
    have C1 := hide c1; have C2 := hide c2; have C3 := hide c3; have C4 := hide c4; have C5 := hide c5; have CW := hide cw; have HM := hide hmod; have HKB := hide hkb
    clear c1 c2 c3 c4 c5 cw hmod hx hy hs hp ht hb1 hlen hlen' hl hm
    have split_ : (x == y) = true ∨ ((x == y) = false ∧ x % 65535 = 0 ∧ y % 65535 = 0) := by
      have := HM.out
      by_cases e : x = y
      · exact .inl (by simp [e])
      · exact .inr ⟨by simp [e], by omega, by omega⟩
    have qm : (x % 65535 == y % 65535) = true := by
      have := HM.out
      simp; omega
    rcases split_ with e | ⟨e, ex, ey⟩
    all_goals
      have k2 : 2 * k + 2 * n' ≤ 2 * n := by have := HKB.out; omega
      go_enter Try.func13, Try.ntmps13
      go_wp2_with fail
      refine (C1.out _ hr).mono ?_
      rintro e w1 ⟨rfl, b1⟩
      go_wp2_with fail
      refine (C2.out _ ((hr'.below b1).more b1.size)).mono ?_
      rintro e w2 ⟨rfl, b2⟩
      replace b2 := bstep b1 b2
      go_wp2_with fail
      rw [show (2 : Int) * (k : Int) = ((2 * k : Nat) : Int) from by omega]
      refine (CW.out _).mono ?_
      rintro e w3 ⟨rfl, b3⟩
      replace b3 := bstep b2 b3
      go_wp2_with fail
      refine (C3.out _).mono ?_
      rintro e w4 ⟨rfl, b4⟩
      replace b4 := bstep (bstep b3 (fresh_below _ _)) b4
      go_wp2_with fail
      refine (C4.out _).mono ?_
      rintro e w5 ⟨rfl, b5⟩
      replace b5 := bstep b4 b5
      go_wp2_with fail
      refine (C5.out _).mono ?_
      rintro e w6 ⟨rfl, b6⟩
      replace b6 := bstep (bstep b5 (fresh_below _ _)) b6
      go_wp2_with fail
      refine (summed _).mono ?_
      rintro e w7 ⟨rfl, b7⟩
      replace b7 := bstep b6 b7
      go_wp2_with fail
      go_ret
      exact ⟨rfl, b7⟩
  · by_cases g1 : n ≤ 100
    · have g2 : n < n' := by omega
      clear hlen hlen' g
      go_enter Try.func13, Try.ntmps13
      go_wp2_with fail
      refine (summed _).mono ?_
      rintro e w1 ⟨rfl, b1⟩
      go_wp2_with fail
      go_ret
      exact ⟨rfl, b1⟩
    · have g3 : 100 < n := by omega
      clear hlen hlen' g
      go_enter Try.func13, Try.ntmps13
      go_wp2_with fail
      refine (summed _).mono ?_
      rintro e w1 ⟨rfl, b1⟩
      go_wp2_with fail
      go_ret
      exact ⟨rfl, b1⟩
end Go.Proofs.Ytcghhnehmddoeaa
