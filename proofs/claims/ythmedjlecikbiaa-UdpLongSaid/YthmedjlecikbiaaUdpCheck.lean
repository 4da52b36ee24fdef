/- udp.Check and udp.Seal over this program. -/
import Derived.Test.YthmedjlecikbiaaUdpSummed
import Derived.Test.YthmedjlecikbiaaBit
set_option linter.unusedVariables false
namespace Go.Proofs.Ythmedjlecikbiaa
open Go.RowKit
attribute [local go_sem] Oper.semAt_some

theorem putW_one (n : Int) : putW [n] = put16 n := by simp [putW]
/-- fields.Word of one number, in a row that was just made -/
theorem Word1 (n : Int) (h : 0 ≤ n ∧ n ≤ 65535) (W : World) : Calls Try.prog 20 #[.slice (some ⟨W.heap.size, 0, none⟩) 1 1] (W.alloc (.cells #[.int .u16 n] 22)) (Ret (.string (S (put16 n))) (W.alloc (.cells #[.int .u16 n] 22))) := by
  have h1 := Word (some ⟨W.heap.size, 0, none⟩) 1 1 [n] (W.alloc (.cells #[.int .u16 n] 22)) (Row.freshAt W #[.int .u16 n] 22 W.heap.size _ _ rfl rfl rfl) (by simpa using h) (by omega)
  rwa [putW_one] at h1
theorem udp_summed1 (a b : Int) (p : ByteArray) (ha : 0 ≤ a ∧ a ≤ 4294967295) (hb : 0 ≤ b ∧ b ≤ 4294967295) (hp : p.size ≤ 140737488351232) (W : World) :
    Calls Try.prog 23 #[.int .u32 a, .int .u32 b, .slice (some ⟨W.heap.size, 0, none⟩) 1 1] (W.alloc (.cells #[.string p] 9)) (Two (S (pseudo a b 17 p.size)) p (W.alloc (.cells #[.string p] 9))) :=
  udp_summed a b p _ 1 _ (Row.freshN W #[.string p] 9 _ _ rfl rfl) ha hb hp

set_option maxHeartbeats 1000000 in
theorem udp_Check (a b : Int) (s : ByteArray) (w : World) (ha : 0 ≤ a ∧ a ≤ 4294967295) (hb : 0 ≤ b ∧ b ≤ 4294967295) (hs : s.size ≤ 140737488351232) :
    Calls Try.prog 13 #[.int .u32 a, .int .u32 b, .string s] w (Ret (.bool (udpOk a b s)) w) := by
  by_cases h8 : s.size < 8
  · have hv : udpOk a b s = false := by unfold udpOk; simp; omega
    rw [hv]
    have q2 : (s.size : Int) < 8 := by omega
    clear hv
    go_enter Try.func13, Try.ntmps13
    go_wp2_with fail
    go_ret
    exact ⟨rfl, Below.refl _ _⟩
  · have c1 := fun w => udp_take s w (reach_max hs)
    have q2 : ¬ (s.size : Int) < 8 := by omega
    unfold udpHead at c1
    obtain ⟨x0, e0⟩ : ∃ x, x = get16 (L s) 0 := ⟨_, rfl⟩
    obtain ⟨x2, e2⟩ : ∃ x, x = get16 (L s) 2 := ⟨_, rfl⟩
    obtain ⟨x4, e4⟩ : ∃ x, x = get16 (L s) 4 := ⟨_, rfl⟩
    rw [← e0, ← e2, ← e4] at c1
    by_cases h6 : get16 (L s) 6 = 0
    · have hv : udpOk a b s = true := by unfold udpOk; simp [h6]; omega
      rw [hv]
      rw [h6] at c1
      have C1 := hide c1
      clear c1 hv h6 e0 e2 e4
      have i3 : ∀ w, (Instr.index 46 (.agg #[.int .u16 x0, .int .u16 x2, .int .u16 x4, .int .u16 0]) (.int .i64 3)).run Try.prog w = .ok (.int .u16 0) w := fun _ => by kernel_rfl
      go_enter Try.func13, Try.ntmps13
      go_wp2_with fail
      refine (C1.out _).mono ?_
      rintro e w1 ⟨rfl, b1⟩
      go_wp2_with fail
      go_ret
      exact ⟨rfl, b1⟩
    · have hv : udpOk a b s = holds [pseudo a b 17 s.size, L s] := by unfold udpOk; simp [h6]; omega
      rw [hv]
      have c2 := fun W => udp_summed1 a b s ha hb hs W
      obtain ⟨p, hp⟩ : ∃ p, p = S (pseudo a b 17 s.size) := ⟨_, rfl⟩
      have zp : p.size = 12 := by rw [hp]; rfl
      rw [← hp] at c2
      have c3 := fun A c W hr => Holds A 2 c [p, s] W hr (by
        intro x hx
        simp only [List.mem_cons, List.not_mem_nil, or_false] at hx
        rcases hx with rfl | rfl <;> omega) (by omega)
      have hm : [p, s].map L = [pseudo a b 17 s.size, L s] := by rw [hp]; rfl
      rw [hm] at c3
      obtain ⟨v, hv2⟩ : ∃ v, v = holds [pseudo a b 17 s.size, L s] := ⟨_, rfl⟩
      rw [← hv2] at c3 ⊢
      obtain ⟨x, hx⟩ : ∃ x, x = get16 (L s) 6 := ⟨_, rfl⟩
      rw [← hx] at c1 h6
      have q3 : (x == 0) = false := by simp [h6]
      have q4 : decide (x = 0) = false := by simp [h6]
      have C1 := hide c1; have C2 := hide c2; have C3 := hide c3
      clear c1 c2 c3 hv hv2 hx hp hm e0 e2 e4
      have i3 : ∀ w, (Instr.index 46 (.agg #[.int .u16 x0, .int .u16 x2, .int .u16 x4, .int .u16 x]) (.int .i64 3)).run Try.prog w = .ok (.int .u16 x) w := fun _ => by kernel_rfl
      go_enter Try.func13, Try.ntmps13
      go_wp2_with fail
      refine (C1.out _).mono ?_
      rintro e w1 ⟨rfl, b1⟩
      go_wp2_with fail
      refine (C2.out _).mono ?_
      rintro e w2 ⟨A', c', rfl, hr, b2⟩
      replace b2 := bstep (bstep b1 (fresh_below _ _)) b2
      go_wp2_with fail
      refine (C3.out _ _ _ hr).mono ?_
      rintro e w3 ⟨rfl, b3⟩
      replace b3 := bstep b2 b3
      go_wp2_with fail
      go_ret
      exact ⟨rfl, b3⟩

theorem udpSeal_lay (a b : Int) {l : List UInt8} (h : 8 ≤ l.length) : udpSeal a b l = lay l 6 (udpSum a b l) := by
  unfold udpSeal; rw [if_neg (by omega)]; rfl

set_option maxHeartbeats 2000000 in
theorem udp_Seal (a b : Int) (s : ByteArray) (w : World) (ha : 0 ≤ a ∧ a ≤ 4294967295) (hb : 0 ≤ b ∧ b ≤ 4294967295) (hs : s.size ≤ 140737488351232) :
    Calls Try.prog 15 #[.int .u32 a, .int .u32 b, .string s] w (Ret (.string (S (udpSeal a b (L s)))) w) := by
  have c1 := fun W => Word1 0 (by omega) W
  have z0 : (S (put16 0)).size = 2 := rfl
  by_cases h8 : s.size < 8
  · have hv : S (udpSeal a b (L s)) = s := by unfold udpSeal; rw [L_length, if_pos h8, S_L]
    rw [hv]
    have c2 := fun W => With s 6 (S (put16 0)) W hs (by omega) (by omega)
    have hh : has s.size 6 (S (put16 0)).size = false := has_false (by omega)
    rw [hh] at c2
    obtain ⟨p, hp⟩ : ∃ p, p = S (put16 0) := ⟨_, rfl⟩
    rw [← hp] at c1 c2
    obtain ⟨r, hr⟩ : ∃ r, r = S (putAt (L s) 6 (L p)) := ⟨_, rfl⟩
    rw [← hr] at c2
    have C1 := hide c1; have C2 := hide c2
    clear c1 c2 hp hr hh z0 hv
    go_enter Try.func15, Try.ntmps15
    go_wp2_with fail
    refine (C1.out _).mono ?_
    rintro e w1 ⟨rfl, b1⟩
    replace b1 := bstep (fresh_below _ _) b1
    go_wp2_with fail
    refine (C2.out _).mono ?_
    rintro e w2 ⟨rfl, b2⟩
    replace b2 := bstep b1 b2
    go_wp2_with fail
    go_ret
    exact ⟨rfl, b2⟩
  · have hlay := udpSeal_lay a b (l := L s) (by rw [L_length]; omega)
    rw [hlay]
    have hub := udpSum_bd a b (L s)
    have hl8 : 6 + 2 ≤ (L s).length := by rw [L_length]; omega
    have c2 := fun W => With_in s 6 (S (put16 0)) W hs (by omega)
    have e2 : (L s).take 6 ++ (L (S (put16 0)) ++ (L s).drop (6 + (S (put16 0)).size)) = lay (L s) 6 0 := by rw [← List.append_assoc]; rfl
    rw [e2] at c2
    have c5 := fun W => With_in s 6 (S (put16 (udpSum a b (L s)))) W hs (by rw [S_size, put16_length]; omega)
    have e5 : (L s).take 6 ++ (L (S (put16 (udpSum a b (L s)))) ++ (L s).drop (6 + (S (put16 (udpSum a b (L s)))).size)) = lay (L s) 6 (udpSum a b (L s)) := by rw [← List.append_assoc]; rfl
    rw [e5] at c5
    have c4 := fun W => Word1 (udpSum a b (L s)) (by omega) W
    have zb : (S (lay (L s) 6 0)).size = s.size := by rw [S_size, lay_length hl8, L_length]
    have c3 := fun W => udp_summed1 a b (S (lay (L s) 6 0)) ha hb (by rw [zb]; exact hs) W
    rw [zb] at c3
    have zp : (S (pseudo a b 17 s.size)).size = 12 := rfl
    have c6 := fun A c W hr => Sum A 2 c [S (pseudo a b 17 s.size), S (lay (L s) 6 0)] W hr (by
      intro x hx
      simp only [List.mem_cons, List.not_mem_nil, or_false] at hx
      rcases hx with rfl | rfl
      · rw [zp]; omega
      · rw [zb]; exact hs) (by omega)
    have hm : [S (pseudo a b 17 s.size), S (lay (L s) 6 0)].map L = [pseudo a b 17 (L s).length, (L s).take 6 ++ [0, 0] ++ (L s).drop 8] := rfl
    rw [hm] at c6
    have hsum : udpSum a b (L s) = if sumL [pseudo a b 17 (L s).length, (L s).take 6 ++ [0, 0] ++ (L s).drop 8] = 0 then 65535 else sumL [pseudo a b 17 (L s).length, (L s).take 6 ++ [0, 0] ++ (L s).drop 8] := rfl
    have hsb := sumL_bd [pseudo a b 17 (L s).length, (L s).take 6 ++ [0, 0] ++ (L s).drop 8]
    obtain ⟨n, hn⟩ : ∃ n, n = sumL [pseudo a b 17 (L s).length, (L s).take 6 ++ [0, 0] ++ (L s).drop 8] := ⟨_, rfl⟩
    rw [← hn] at c6 hsb hsum
    obtain ⟨m, hm2⟩ : ∃ m, m = udpSum a b (L s) := ⟨_, rfl⟩
    rw [← hm2] at c4 c5 hsum hub ⊢
    obtain ⟨p, hp⟩ : ∃ p, p = S (put16 0) := ⟨_, rfl⟩
    obtain ⟨q, hq⟩ : ∃ q, q = S (pseudo a b 17 s.size) := ⟨_, rfl⟩
    obtain ⟨r, hr⟩ : ∃ r, r = S (lay (L s) 6 0) := ⟨_, rfl⟩
    obtain ⟨t, ht⟩ : ∃ t, t = S (put16 m) := ⟨_, rfl⟩
    obtain ⟨u, hu⟩ : ∃ u, u = S (lay (L s) 6 m) := ⟨_, rfl⟩
    rw [← hp] at c1 c2
    rw [← hr] at c2 c3 c6
    rw [← hq] at c3 c6
    rw [← ht] at c4 c5
    rw [← hu] at c5 ⊢
    have C1 := hide c1; have C2 := hide c2; have C3 := hide c3; have C4 := hide c4; have C5 := hide c5; have C6 := hide c6
    clear c1 c2 c3 c4 c5 c6 hp hq hr ht hu hm2 hn hm e2 e5 zb zp z0 hlay hl8
    by_cases h0 : n = 0
    · rw [if_pos h0] at hsum
      subst hsum
      subst h0
      go_enter Try.func15, Try.ntmps15
      go_wp2_with fail
      refine (C1.out _).mono ?_
      rintro e w1 ⟨rfl, b1⟩
      replace b1 := bstep (fresh_below _ _) b1
      go_wp2_with fail
      refine (C2.out _).mono ?_
      rintro e w2 ⟨rfl, b2⟩
      replace b2 := bstep b1 b2
      go_wp2_with fail
      refine (C3.out _).mono ?_
      rintro e w3 ⟨A', c', rfl, hr3, b3⟩
      replace b3 := bstep (bstep b2 (fresh_below _ _)) b3
      go_wp2_with fail
      refine (C6.out _ _ _ hr3).mono ?_
      rintro e w4 ⟨rfl, b4⟩
      replace b4 := bstep b3 b4
      go_wp2_with fail
      refine (C4.out _).mono ?_
      rintro e w5 ⟨rfl, b5⟩
      replace b5 := bstep (bstep b4 (fresh_below _ _)) b5
      go_wp2_with fail
      refine (C5.out _).mono ?_
      rintro e w6 ⟨rfl, b6⟩
      replace b6 := bstep b5 b6
      go_wp2_with fail
      go_ret
      exact ⟨rfl, b6⟩
    · rw [if_neg h0] at hsum
      subst hsum
      have q3 : (m == 0) = false := by simp [h0]
      have q4 : decide (m = 0) = false := by simp [h0]
      go_enter Try.func15, Try.ntmps15
      go_wp2_with fail
      refine (C1.out _).mono ?_
      rintro e w1 ⟨rfl, b1⟩
      replace b1 := bstep (fresh_below _ _) b1
      go_wp2_with fail
      refine (C2.out _).mono ?_
      rintro e w2 ⟨rfl, b2⟩
      replace b2 := bstep b1 b2
      go_wp2_with fail
      refine (C3.out _).mono ?_
      rintro e w3 ⟨A', c', rfl, hr3, b3⟩
      replace b3 := bstep (bstep b2 (fresh_below _ _)) b3
      go_wp2_with fail
      refine (C6.out _ _ _ hr3).mono ?_
      rintro e w4 ⟨rfl, b4⟩
      replace b4 := bstep b3 b4
      go_wp2_with fail
      refine (C4.out _).mono ?_
      rintro e w5 ⟨rfl, b5⟩
      replace b5 := bstep (bstep b4 (fresh_below _ _)) b5
      go_wp2_with fail
      refine (C5.out _).mono ?_
      rintro e w6 ⟨rfl, b6⟩
      replace b6 := bstep b5 b6
      go_wp2_with fail
      go_ret
      exact ⟨rfl, b6⟩
end Go.Proofs.Ythmedjlecikbiaa
