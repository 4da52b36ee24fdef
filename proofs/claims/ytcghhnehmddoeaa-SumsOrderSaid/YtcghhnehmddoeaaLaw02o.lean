/- SumsOrder walked: it returns true and leaves what lay there as it lay. -/
import Derived.Test.YtcghhnehmddoeaaLaw02
import Derived.Test.YtcghhnehmddoeaaTurned
import Derived.Deep.RegionHeld3
set_option linter.unusedVariables false
namespace Go.Proofs.Ytcghhnehmddoeaa
open Go.RowKit

theorem flat1 (a : List UInt8) : [a].flatMap words = words a := by simp
theorem flat2 (a b : List UInt8) : [a, b].flatMap words = words a ++ words b := by simp
theorem shl8 {n : Int} (h : 0 ≤ n ∧ n ≤ 65535) : bits .or .u16 (n % 256 * 256) (n / 256) = swap n := by
  rw [or16 _ _ (by omega) (by omega) (by omega) (by omega)]; rfl

/-- what the law compares -/
theorem order_facts {l : List Int} (hl : ∀ x ∈ l, 0 ≤ x ∧ x ≤ 65535) (k : Nat) (n : Int) (hn : n = sumL [putW l]) :
    sumL [putW (l.take k), putW (l.drop k)] = n ∧ sumL [putW (l.drop k), putW (l.take k)] = n ∧ sumL [putW (l.drop k) ++ putW (l.take k)] = n ∧ sumL [turnB (putW l)] = swap n := by
  have ha : ∀ x ∈ l.take k, 0 ≤ x ∧ x ≤ 65535 := fun x hx => hl x (List.mem_of_mem_take hx)
  have hb : ∀ x ∈ l.drop k, 0 ≤ x ∧ x ≤ 65535 := fun x hx => hl x (List.mem_of_mem_drop hx)
  have ht : tot (l.take k) + tot (l.drop k) = tot l := by rw [← tot_append, List.take_append_drop]
  have h0 : 0 ≤ rep (tot l) ∧ rep (tot l) ≤ 65535 := rep_bd (tot_nonneg hl)
  subst hn
  rw [sumL_rep, sumL_rep, sumL_rep, sumL_rep, sumL_rep, flat1, flat1, flat1, flat2, flat2, words_putW' hl, words_putW' ha, words_putW' hb, words_putW hb, words_putW' ha, words_turn hl, tot_append, tot_append, rep_swap hl, ← swap_not h0]
  rw [Int.add_comm (tot (l.drop k)), ht]
  exact ⟨rfl, rfl, rfl, by have := swap_not (x := 65535 - rep (tot l)) (by omega); omega⟩

theorem slice_size (w : World) : (Go.sizeOf (Try.prog.elem 43)).run Try.prog w = .ok 1 w := by kernel_rfl

set_option maxHeartbeats 1000000 in
theorem SumsOrder_walk (A : Option Addr) (n c : Nat) (l : List Int) (i : Int) (w : World) (hr : Row w w.heap.size A n (l.map (Value.int .u16))) (hl : ∀ x ∈ l, 0 ≤ x ∧ x ≤ 65535) (hn : n ≤ c ∧ c ≤ 9223372036854775807) (hi : 0 ≤ i ∧ i ≤ 255) :
    Calls Try.prog 12 #[.slice A n c, .int .u8 i] w (Ret (.bool true) w) := by
  obtain ⟨i1, i2⟩ := hi
  obtain ⟨hnc, hc⟩ := hn
  have hlen : l.length = n := by simpa using hr.1
  by_cases g : n ≤ 200
  · obtain ⟨k, hk⟩ : ∃ k : Nat, i % ((n : Int) + 1) = k :=
      ⟨(i % ((n : Int) + 1)).toNat, (Int.toNat_of_nonneg (Int.emod_nonneg _ (by omega))).symm⟩
    have hkb : k ≤ n := by
      have := Int.emod_lt_of_pos i (show 0 < (n : Int) + 1 by omega)
      omega
    have ha : ∀ x ∈ l.take k, 0 ≤ x ∧ x ≤ 65535 := fun x hx => hl x (List.mem_of_mem_take hx)
    have hb : ∀ x ∈ l.drop k, 0 ≤ x ∧ x ≤ 65535 := fun x hx => hl x (List.mem_of_mem_drop hx)
    obtain ⟨m, hm⟩ : ∃ m, m = sumL [putW l] := ⟨_, rfl⟩
    obtain ⟨o1, o2, o3, o4⟩ := order_facts hl k m hm
    have hmb : 0 ≤ m ∧ m ≤ 65535 := by rw [hm]; exact sumL_bd _
    obtain ⟨m0, m1⟩ := hmb
    -- the three rows
    obtain ⟨A1, hA1⟩ : ∃ A1, A1 = (if c = 0 then A else A.map (·.add 0)) := ⟨_, rfl⟩
    obtain ⟨A2, hA2⟩ : ∃ A2, A2 = (if c = k then A else A.map (·.add k)) := ⟨_, rfl⟩
    have r1 : Row w w.heap.size A1 k ((l.take k).map (Value.int .u16)) := by
      refine ⟨by simp; omega, fun h => ?_⟩
      obtain ⟨b, o, e, hb, hcell⟩ := hr.at_ (by omega)
      refine ⟨b, o, by rw [hA1, if_neg (by omega), e]; simp [Addr.add], hb, fun j u hu => hcell j u ?_⟩
      rw [List.getElem?_map] at hu ⊢
      have : j < k := by
        rcases Nat.lt_or_ge j k with hj | hj
        · exact hj
        · rw [List.getElem?_eq_none (by simp; omega)] at hu; cases hu
      rwa [List.getElem?_take_of_lt this] at hu
    have r2 : Row w w.heap.size A2 (n - k) ((l.drop k).map (Value.int .u16)) := by
      refine ⟨by simp; omega, fun h => ?_⟩
      obtain ⟨b, o, e, hb, hcell⟩ := hr.at_ (by omega)
      refine ⟨b, o + k, ?_, hb, fun j u hu => ?_⟩
      · rw [hA2, if_neg (by omega), e]
        by_cases h0 : k = 0
        · subst h0; simp [Addr.add]
        · simp [Addr.add, h0]
      · rw [Nat.add_assoc]
        refine hcell (k + j) u ?_
        rw [List.getElem?_map] at hu ⊢
        rwa [List.getElem?_drop] at hu
    have s1 : ∀ w, (Instr.slice 43 (.slice A n c) none (some (.int .i64 (k : Int))) none).run Try.prog w = .ok (.slice A1 k c) w := fun w => by
      rw [run_slice_h w 43 A n c Try.underlying43 .i64 (k : Int) (by omega) (by omega), slice_size w]
      simp [sliced, Result.andThen, hA1]
    have s2 : ∀ w, (Instr.slice 43 (.slice A n c) (some (.int .i64 (k : Int))) none none).run Try.prog w = .ok (.slice A2 (n - k) (c - k)) w := fun w => by
      rw [run_slice_l w 43 A n c Try.underlying43 .i64 (k : Int) (by omega) (by omega), slice_size w]
      simp [sliced, Result.andThen, hA2]
    have z1 : (S (putW l)).size = 2 * n := by rw [S_size, putW_length, hlen]
    have z2 : (S (putW (l.take k))).size ≤ 400 := by rw [S_size, putW_length]; simp; omega
    have z3 : (S (putW (l.drop k))).size ≤ 400 := by rw [S_size, putW_length]; simp; omega
    have zt : (S (turnB (putW l))).size ≤ 400 := by rw [S_size, turnB_length, putW_length]; omega
    have z0 : (S (putW l)).size ≤ 400 := by omega
    have c1 := fun w hr => Word A n c l w hr hl (by omega)
    have c2 := fun w hr => Word A1 k c (l.take k) w hr ha (by omega)
    have c3 := fun w hr => Word A2 (n - k) (c - k) (l.drop k) w hr hb (by omega)
    have ct := fun w => turned (S (putW l)) w (by omega) (by omega)
    rw [L_S] at ct
    obtain ⟨s, hs⟩ : ∃ s, s = S (putW l) := ⟨_, rfl⟩
    obtain ⟨p, hp⟩ : ∃ p, p = S (putW (l.take k)) := ⟨_, rfl⟩
    obtain ⟨q, hq⟩ : ∃ q, q = S (putW (l.drop k)) := ⟨_, rfl⟩
    obtain ⟨t, ht⟩ : ∃ t, t = S (turnB (putW l)) := ⟨_, rfl⟩
    have ls : L s = putW l := by rw [hs, L_S]
    have lp : L p = putW (l.take k) := by rw [hp, L_S]
    have lq : L q = putW (l.drop k) := by rw [hq, L_S]
    have lqp : L (q ++ p) = putW (l.drop k) ++ putW (l.take k) := by rw [L_append, lq, lp]
    have ltt : L t = turnB (putW l) := by rw [ht, L_S]
    have d1 := fun (w : World) => Sum (some ⟨w.heap.size, 0, none⟩) 1 1 [s] _ (Row.freshN w #[.string s] 9 _ _ rfl rfl) (by simp [hs]; omega) (by omega)
    have d2 := fun (w : World) => Sum (some ⟨w.heap.size, 0, none⟩) 2 2 [p, q] _ (Row.freshN w #[.string p, .string q] 9 _ _ rfl rfl) (by simp [hp, hq]; omega) (by omega)
    have d3 := fun (w : World) => Sum (some ⟨w.heap.size, 0, none⟩) 2 2 [q, p] _ (Row.freshN w #[.string q, .string p] 9 _ _ rfl rfl) (by simp [hp, hq]; omega) (by omega)
    have d4 := fun (w : World) => Sum (some ⟨w.heap.size, 0, none⟩) 1 1 [q ++ p] _ (Row.freshN w #[.string (q ++ p)] 9 _ _ rfl rfl) (by simp [ByteArray.size_append, hp, hq]; omega) (by omega)
    have d5 := fun (w : World) => Sum (some ⟨w.heap.size, 0, none⟩) 1 1 [t] _ (Row.freshN w #[.string t] 9 _ _ rfl rfl) (by simp [ht]; omega) (by omega)
    simp only [List.map_cons, List.map_nil, ls, lp, lq, lqp, ltt] at d1 d2 d3 d4 d5
    rw [← hm] at d1; rw [o1] at d2; rw [o2] at d3; rw [o3] at d4; rw [o4] at d5
    rw [← hs] at c1 ct z0; rw [← hp] at c2 z2; rw [← hq] at c3 z3; rw [← ht] at ct
    have e1 : IntKind.u16.wrap (m * 256) = m % 256 * 256 := by rw [IntKind.wrap_u16]; omega
    have e2 := shl8 (n := m) ⟨m0, m1⟩
    have C1 := hide c1; have C2 := hide c2; have C3 := hide c3; have CT := hide ct; have D1 := hide d1; have D2 := hide d2; have D3 := hide d3; have D4 := hide d4; have D5 := hide d5
    clear c1 c2 c3 ct d1 d2 d3 d4 d5 o1 o2 o3 o4 hm hs hp hq ht ls lp lq lqp ltt hA1 hA2 hlen hl ha hb z1 zt
    go_enter Try.func12, Try.ntmps12
    go_wp2_with fail
    go_region_held3 (fun _ => True) (trivial)
      (first | (go_at_call 37; refine (C1.out _ (by exact hr)).mono ?_; clear C1; rintro e w1 ⟨rfl, b1⟩; replace b1 := (Below.refl w.heap.size w).drew.trans b1) | (go_at_call 37; refine (C2.out _ (by exact (r1.below b1).more b1.size)).mono ?_; clear C2; rintro e w2 ⟨rfl, b2⟩; replace b2 := bstep b1 b2) | (go_at_call 37; refine (C3.out _ (by exact (r2.below b2).more b2.size)).mono ?_; clear C3; rintro e w3 ⟨rfl, b3⟩; replace b3 := bstep b2 b3))
    go_wp2_with fail
    refine (D1.out _).mono ?_
    rintro e w4 ⟨rfl, b4⟩
    replace b4 := bstep (bstep b3 (fresh_below _ _)) b4
    go_wp2_with fail
    refine (D2.out _).mono ?_
    rintro e w5 ⟨rfl, b5⟩
    replace b5 := bstep (bstep b4 (fresh_below _ _)) b5
    go_wp2_with fail
    refine (D3.out _).mono ?_
    rintro e w6 ⟨rfl, b6⟩
    replace b6 := bstep (bstep b5 (fresh_below _ _)) b6
    go_wp2_with fail
    refine (D4.out _).mono ?_
    rintro e w7 ⟨rfl, b7⟩
    replace b7 := bstep (bstep b6 (fresh_below _ _)) b7
    go_wp2_with fail
    refine (CT.out _).mono ?_
    rintro e w8 ⟨rfl, b8⟩
    replace b8 := bstep b7 b8
    go_wp2_with fail
    refine (D5.out _).mono ?_
    rintro e w9 ⟨rfl, b9⟩
    replace b9 := bstep (bstep b8 (fresh_below _ _)) b9
    go_wp2_with fail
    refine (summed _).mono ?_
    rintro e w10 ⟨rfl, b10⟩
    replace b10 := bstep b9 b10
    go_wp2_with fail
    go_ret
    exact ⟨rfl, b10⟩
  · have g3 : 200 < n := by omega
    clear hlen g
    go_enter Try.func12, Try.ntmps12
    go_wp2_with fail
    refine (summed _).mono ?_
    rintro e w1 ⟨rfl, b1⟩
    go_wp2_with fail
    go_ret
    exact ⟨rfl, b1⟩
end Go.Proofs.Ytcghhnehmddoeaa
