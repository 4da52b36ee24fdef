/- The outright laws of layer 1 walked: each returns true and leaves what lay there as it lay. -/
import Derived.Test.YtcghhnehmddoeaaLaw01
import Derived.Test.YtcghhnehmddoeaaNum
import Derived.StillTailTactics
set_option linter.unusedVariables false
namespace Go.Proofs.Ytcghhnehmddoeaa
open Go.RowKit

set_option maxHeartbeats 1000000 in
theorem FieldsBack_walk (A : Option Addr) (n c : Nat) (l : List Int) (s : ByteArray) (b : Int) (w : World) (hr : Row w w.heap.size A n (ints16 l)) (hl : ∀ x ∈ l, 0 ≤ x ∧ x ≤ 65535) (hn : n ≤ 9223372036854775807) (hs : s.size ≤ 140737488351232) (hb : 0 ≤ b ∧ b ≤ 4294967295) :
    Calls Try.prog 7 #[.slice A n c, .string s, .int .u32 b] w (Ret (.bool true) w) := by
  obtain ⟨hb1, hb2⟩ := hb
  have hlen : l.length = n := by simpa [ints16] using hr.1
  have HL := hide hl
  have HN := hide hlen
  clear hl hlen
  by_cases g1 : n ≤ 200
  · by_cases g2 : s.size ≤ 200
    · have z1 : (S (putW l)).size = 2 * n := by rw [S_size, putW_length, HN.out]
      have z2 : (S (put32 b)).size = 4 := rfl
      go_enter Try.func7, Try.ntmps7
      go_wp2_with fail
      refine (Word A n c l _ hr HL.out (by omega)).mono ?_
      rintro e w1 ⟨rfl, b1⟩
      go_wp2_with fail
      refine (Put32 b _ hb1 hb2).mono ?_
      rintro e w2 ⟨rfl, b2⟩
      replace b2 := bstep b1 b2
      go_wp2_with fail
      generalize ht : s ++ S (putW l) ++ S (put32 b) = t
      have zt : t.size = s.size + 2 * n + 4 := by rw [← ht, ByteArray.size_append, ByteArray.size_append, z1, z2]
      have lt : L t = L s ++ (putW l ++ put32 b) := by rw [← ht, L_append, L_append, L_S, L_S, List.append_assoc]
      have hm : t.size ≤ maxLen := by rw [zt]; unfold maxLen; omega
      have LT := hide lt
      clear ht lt b1 z1 z2
      have s0 : 0 ≤ (s.size : Int) := by omega
      go_loopw [8] (fun i wr => ∃ k : Nat, k ≤ n ∧ i = .int .i64 k ∧ Below w.heap.size w wr) (fun i _ => n - (intOf i).toNat)
      case atStart => exact ⟨0, Nat.zero_le _, rfl, b2⟩
      case round =>
        obtain ⟨k, hk, rfl, bl⟩ := hrel
        by_cases hlt : k < n
        · obtain ⟨bb, o, rfl, hbo, hc⟩ := hr.at_ (by omega)
          have e1 : be16 (L t) (s.size + 2 * k) = l.getD k 0 := by
            rw [LT.out, be16_right (by rw [L_length]; omega), L_length, show s.size + 2 * k - s.size = 2 * k from by omega]
            exact be16_putW HL.out _ (by rw [HN.out]; exact hlt)
          obtain ⟨x, hx⟩ : ∃ x, x = l.getD k 0 := ⟨_, rfl⟩
          rw [← hx] at e1
          have E1 := hide e1
          have hcell := fun (w' : World) (h : Below w.heap.size w w') => (h.cell (p := ⟨bb, o + k, none⟩) hbo).trans (hc k _ (ints16_at (by rw [HN.out]; exact hlt)))
          rw [← hx] at hcell
          have HC := hide hcell
          clear e1 hx hcell hc
          go_wp2_with fail
          rw [show (s.size : Int) + 2 * (k : Int) = ((s.size + 2 * k : Nat) : Int) from by omega]
          refine ((Get16_in t (s.size + 2 * k) _ hm (by omega)).mono fun _ _ h => h.ret).mono ?_
          rintro e w3 ⟨rfl, b3⟩
          replace b3 := bstep bl b3
          rw [E1.out]
          have hc3 := HC.out _ b3
          go_wp2_with fail
          go_roundw
          case rel => exact ⟨k + 1, by omega, by go_num, b3⟩
          case measure => simp [intOf]; omega
        · obtain rfl : k = n := by omega
          have e1 : be32 (L t) (s.size + 2 * k) = b := by
            rw [LT.out, ← List.append_assoc, be32_right (by rw [List.length_append, L_length, putW_length, HN.out]; omega), List.length_append, L_length, putW_length, HN.out, show s.size + 2 * k - (s.size + 2 * k) = 0 from by omega]
            simpa using be32_put b [] hb1 hb2
          have E1 := hide e1
          have h2 : has t.size ((s.size : Int) + 2 * (k : Int) + 1) 4 = false := has_false (by rw [zt]; omega)
          have e3 : get32 (L t) ((s.size : Int) + 2 * (k : Int) + 1) = 0 := by unfold get32; rw [L_length, h2]; rfl
          have c2 := fun w => Get32 t ((s.size : Int) + 2 * (k : Int) + 1) w hm (by omega)
          rw [e3, h2] at c2
          have C2 := hide c2
          clear e1 e3 h2 c2
          have q1 : b / 65536 ≤ 65535 := by omega
          have q2 : 0 ≤ b / 65536 := by omega
          have q3 : IntKind.u16.wrap b = b % 65536 := by rw [IntKind.wrap_u16]
          go_wp2_with fail
          rw [show (s.size : Int) + 2 * (k : Int) = ((s.size + 2 * k : Nat) : Int) from by omega]
          refine ((Get32_in t (s.size + 2 * k) _ hm (by omega)).mono fun _ _ h => h.ret).mono ?_
          rintro e w3 ⟨rfl, b3⟩
          replace b3 := bstep bl b3
          rw [E1.out]
          go_wp2_with fail
          rw [show (s.size : Int) + 2 * (k : Int) + 4 - 3 = (s.size : Int) + 2 * (k : Int) + 1 from by omega]
          refine (C2.out _).mono ?_
          rintro e w4 ⟨rfl, b4⟩
          replace b4 := bstep b3 b4
          go_wp2_with fail
          refine (Word _ 2 _ [b / 65536, b % 65536] _ (Row.freshN _ _ _ _ _ rfl rfl) (by simp; omega) (by omega)).mono ?_
          rintro e w5 ⟨rfl, b5⟩
          replace b5 := bstep (bstep b4 (fresh_below _ _)) b5
          go_wp2_with fail
          refine (Put32 b _ hb1 hb2).mono ?_
          rintro e w6 ⟨rfl, b6⟩
          replace b6 := bstep b5 b6
          rw [show putW [b / 65536, b % 65536] = put32 b from by simp [putW, put32]]
          go_wp2_with fail
          refine (laid01 _).mono ?_
          rintro e w7 ⟨rfl, b7⟩
          replace b7 := bstep b6 b7
          go_wp2_with fail
          go_ret
          exact ⟨rfl, b7⟩
    · go_enter Try.func7, Try.ntmps7
      go_wp2_with fail
      refine (laid01 _).mono ?_
      rintro e w1 ⟨rfl, b1⟩
      go_wp2_with fail
      go_ret
      exact ⟨rfl, b1⟩
  · go_enter Try.func7, Try.ntmps7
    go_wp2_with fail
    refine (laid01 _).mono ?_
    rintro e w1 ⟨rfl, b1⟩
    go_wp2_with fail
    go_ret
    exact ⟨rfl, b1⟩

set_option maxHeartbeats 1000000 in
theorem FieldsWith_walk (s : ByteArray) (i : Int) (p : ByteArray) (w : World) (hs : s.size ≤ 140737488351232) (hi : 0 ≤ i ∧ i ≤ 65535) (hp : p.size ≤ 140737488351232) :
    Calls Try.prog 8 #[.string s, .int .u16 i, .string p] w (Ret (.bool true) w) := by
  obtain ⟨i1, i2⟩ := hi
  by_cases g : s.size ≤ 400 ∧ p.size ≤ s.size
  · obtain ⟨g1, g2⟩ := g
    obtain ⟨k, hk⟩ : ∃ k : Nat, i % ((s.size : Int) - (p.size : Int) + 1) = k :=
      ⟨(i % ((s.size : Int) - (p.size : Int) + 1)).toNat, (Int.toNat_of_nonneg (Int.emod_nonneg _ (by omega))).symm⟩
    have hkb : k + p.size ≤ s.size := by
      have := Int.emod_lt_of_pos i (show 0 < (s.size : Int) - (p.size : Int) + 1 by omega)
      omega
    have hlb : k + (L p).length ≤ (L s).length := by rw [L_length, L_length]; exact hkb
    obtain ⟨t, ht⟩ : ∃ t, t = S ((L s).take k ++ (L p ++ (L s).drop (k + p.size))) := ⟨_, rfl⟩
    have lt : L t = putAt (L s) k (L p) := by rw [ht, L_S, putAt_in hlb, L_length]
    have zt : t.size = s.size := by rw [← L_length, lt, putAt_length hlb, L_length]
    have zq : (s.extract k (k + p.size)).size = p.size := by rw [← L_length, L_extract]; simp [L_length]; omega
    have v2 : S ((L t).take k ++ (L (s.extract k (k + p.size)) ++ (L t).drop (k + (s.extract k (k + p.size)).size))) = s := by
      have e : ((L s).drop k).take (k + p.size - k) = ((L s).drop k).take (L p).length := by rw [L_length, show k + p.size - k = p.size from by omega]
      rw [L_extract, e, zq, ← L_length p, lt, putAt_take hlb, putAt_end hlb, ← List.drop_drop, List.take_append_drop, List.take_append_drop, S_L]
    have e1 : t.extract 0 k = s.extract 0 k := L_inj (by rw [L_to, L_to, lt, putAt_take hlb])
    have e2 : t.extract k (k + p.size) = p := L_inj (by rw [L_extract, lt, show k + p.size - k = (L p).length from by rw [L_length]; omega, putAt_mid hlb])
    have e3 : t.extract (k + p.size) t.size = s.extract (k + p.size) s.size := L_inj (by rw [L_from, L_from, lt, ← L_length p, putAt_end hlb])
    rw [zt] at e3
    have c1 := fun w => With_in s k p w hs hkb
    rw [← ht] at c1
    have c2 := fun w => With_in t k (s.extract k (k + p.size)) w (by rw [zt]; exact hs) (by rw [zq, zt]; exact hkb)
    rw [v2] at c2
    have C1 := hide c1; have C2 := hide c2
    clear c1 c2 v2 lt ht hlb zq
    have k1 : (k : Int) ≤ (s.size : Int) := by omega
    have k2 : (k : Int) + (p.size : Int) ≤ (s.size : Int) := by omega
    have k3 : k ≤ s.size := by omega
    have k4 : IntKind.i64.wrap ((k : Int) + (p.size : Int)) = (k : Int) + (p.size : Int) := IntWalk.i64_in _ (by omega)
    have k5 : ((k : Int) + (p.size : Int)).toNat = k + p.size := by omega
    have k6 : (0 : Int) ≤ (k : Int) + (p.size : Int) := by omega
    have k7 : (k : Int) ≤ (k : Int) + (p.size : Int) := by omega
    go_enter Try.func8, Try.ntmps8
    go_wp2_with fail
    refine (C1.out _).mono ?_
    rintro e w1 ⟨rfl, b1⟩
    go_wp2_with fail
    refine (C2.out _).mono ?_
    rintro e w2 ⟨rfl, b2⟩
    replace b2 := bstep b1 b2
    go_wp2_with fail
    go_still_tail 34, (by kernel_rfl)
    change wpList _ _ _ _ _ w2.drew
    have b3 := b2.drew
    generalize w2.drew = w3 at b3 ⊢
    go_wp2_with fail
    refine (laid01 _).mono ?_
    rintro e w4 ⟨rfl, b4⟩
    replace b4 := bstep b3 b4
    go_wp2_with fail
    go_ret
    exact ⟨rfl, b4⟩
  · have c1 := fun w => With s i p w hs hp (by omega)
    have q : has s.size i p.size = decide (i ≤ (s.size : Int) - (p.size : Int)) := by
      unfold has; exact decide_eq_decide.2 (by omega)
    rw [q] at c1
    have C1 := hide c1
    clear c1 q
    by_cases g3 : s.size ≤ 400
    · have g2 : s.size < p.size := by omega
      go_enter Try.func8, Try.ntmps8
      go_wp2_with fail
      refine (C1.out _).mono ?_
      rintro e w1 ⟨rfl, b1⟩
      go_wp2_with fail
      refine (laid01 _).mono ?_
      rintro e w2 ⟨rfl, b2⟩
      replace b2 := bstep b1 b2
      go_wp2_with fail
      go_ret
      exact ⟨rfl, b2⟩
    · have g4 : 400 < s.size := by omega
      go_enter Try.func8, Try.ntmps8
      go_wp2_with fail
      refine (C1.out _).mono ?_
      rintro e w1 ⟨rfl, b1⟩
      go_wp2_with fail
      refine (laid01 _).mono ?_
      rintro e w2 ⟨rfl, b2⟩
      replace b2 := bstep b1 b2
      go_wp2_with fail
      go_ret
      exact ⟨rfl, b2⟩
end Go.Proofs.Ytcghhnehmddoeaa
