/- The document's Seal of udp (porterref05) over this program. -/
import Derived.Test.YthmedjlecikbiaaUdpSum
set_option linter.unusedVariables false
namespace Go.Proofs.Ythmedjlecikbiaa
open Go.RowKit
attribute [local go_sem] Oper.semAt_some

set_option maxHeartbeats 4000000 in
theorem r5_Seal (a b : Int) (s : ByteArray) (w : World) (ha : 0 ≤ a ∧ a ≤ 4294967295) (hb : 0 ≤ b ∧ b ≤ 4294967295) (hs : s.size ≤ 140737488351232) :
    Calls Try.prog 16 #[.int .u32 a, .int .u32 b, .string s] w (Ret (.string (S (udpSeal a b (L s)))) w) := by
  by_cases h8 : s.size < 8
  · have hv : udpSeal a b (L s) = L s := by unfold udpSeal; rw [L_length, if_pos h8]
    rw [hv, S_L]
    have q2 : (s.size : Int) < 8 := by omega
    clear hv
    go_enter Try.func16, Try.ntmps16
    go_wp2_with fail
    go_ret
    exact ⟨rfl, Below.refl _ _⟩
  · have q2 : ¬ (s.size : Int) < 8 := by omega
    have i1 : (8 : Int) ≤ (s.size : Int) := by omega
    have i2 : (6 : Int) ≤ (s.size : Int) := by omega
    have hv : udpSeal a b (L s) = (L s).take 6 ++ put16 (udpSum a b (L s)) ++ (L s).drop 8 := by unfold udpSeal; rw [L_length, if_neg h8]
    rw [hv]
    have hub := udpSum_bd a b (L s)
    have c4 := fun w => r_Put16 (udpSum a b (L s)) w (by omega) hub.2
    have c1 := fun w => r5_Pseudo a b 17 s.size w ha hb (by omega) hs
    have hsb := sumL_bd [pseudo a b 17 (L s).length, (L s).take 6 ++ [0, 0] ++ (L s).drop 8]
    have hsum : udpSum a b (L s) = if sumL [pseudo a b 17 (L s).length, (L s).take 6 ++ [0, 0] ++ (L s).drop 8] = 0 then 65535 else sumL [pseudo a b 17 (L s).length, (L s).take 6 ++ [0, 0] ++ (L s).drop 8] := rfl
    obtain ⟨q, hq⟩ : ∃ q, q = S (pseudo a b 17 s.size) := ⟨_, rfl⟩
    have zq : q.size = 12 := by rw [hq]; rfl
    obtain ⟨f, hf⟩ : ∃ f, f = s.extract 0 6 := ⟨_, rfl⟩
    obtain ⟨g, hg⟩ : ∃ g, g = s.extract 8 s.size := ⟨_, rfl⟩
    have zf : f.size = 6 := by rw [hf, ByteArray.size_extract]; omega
    have zg : g.size = s.size - 8 := by rw [hg, ByteArray.size_extract]; omega
    have hLf : L f = (L s).take 6 := by rw [hf, L_to]
    have hLg : L g = (L s).drop 8 := by rw [hg, L_from]
    have z00 : (f ++ { data := #[0, 0] }).size = 8 := by rw [ByteArray.size_append, zf]; rfl
    have hLm : L (f ++ { data := #[0, 0] } ++ g) = (L s).take 6 ++ [0, 0] ++ (L s).drop 8 := by rw [L_append, L_append, hLf, hLg]; rfl
    have hzm : (f ++ { data := #[0, 0] } ++ g).size = s.size := by rw [ByteArray.size_append, z00, zg]; omega
    have c2 := fun W => r_Sum (some ⟨W.heap.size, 0, none⟩) 2 2 [q, f ++ { data := #[0, 0] } ++ g] (W.alloc (.cells #[.string q, .string (f ++ { data := #[0, 0] } ++ g)] 9)) (Row.freshAt W #[.string q, .string (f ++ { data := #[0, 0] } ++ g)] 9 W.heap.size _ _ rfl rfl rfl) (by
      intro x hx
      simp only [List.mem_cons, List.not_mem_nil, or_false] at hx
      rcases hx with rfl | rfl
      · omega
      · rw [hzm]; exact hs) (by omega)
    have hm : [q, f ++ { data := #[0, 0] } ++ g].map L = [pseudo a b 17 (L s).length, (L s).take 6 ++ [0, 0] ++ (L s).drop 8] := by
      rw [List.map_cons, List.map_cons, hLm, hq]; rfl
    rw [hm] at c2
    obtain ⟨n, hn⟩ : ∃ n, n = sumL [pseudo a b 17 (L s).length, (L s).take 6 ++ [0, 0] ++ (L s).drop 8] := ⟨_, rfl⟩
    rw [← hn] at c2 hsb hsum
    rw [← hq] at c1
    obtain ⟨m, hm2⟩ : ∃ m, m = udpSum a b (L s) := ⟨_, rfl⟩
    rw [← hm2] at c4 hsum hub
    obtain ⟨p, hp⟩ : ∃ p, p = S (put16 m) := ⟨_, rfl⟩
    have zp : p.size = 2 := by rw [hp]; rfl
    rw [← hp] at c4
    have zg2 : g.size ≤ 140737488351232 := by omega
    have zfp : (f ++ p).size = 8 := by rw [ByteArray.size_append, zf, zp]
    have hend : f ++ p ++ g = S ((L s).take 6 ++ put16 (udpSum a b (L s)) ++ (L s).drop 8) := by
      apply L_inj
      rw [L_S, L_append, L_append, hLf, hLg, hp, hm2]; rfl
    subst hf
    subst hg
    have HE := hide hend; have C1 := hide c1; have C2 := hide c2; have C4 := hide c4
    clear zf zg zg2 z00 hzm hend c1 c2 c4 hLf hLg hLm hm hn hm2 hp hv hq
    by_cases h0 : n = 0
    · rw [if_pos h0] at hsum
      subst hsum
      subst h0
      go_enter Try.func16, Try.ntmps16
      go_wp2_with fail
      go_region_held_law (fun _ => True) (trivial)
        (first | (go_at_call 25; (with_reducible refine (C1.out _).mono ?_); rintro e w1 ⟨rfl, b1⟩) | (go_at_call 28; (with_reducible refine (C2.out _).mono ?_); rintro e w2 ⟨rfl, b2⟩))
      all_goals
       go_wp2_with fail
       go_region_held_law (fun _ => True) (trivial)
        (first | (go_at_call 29; (with_reducible refine (C4.out _).mono ?_); rintro e w3 ⟨rfl, b3⟩))
       all_goals
        go_wp2
        go_ret
        refine ⟨ret_str HE.out, ?_⟩
        repeat' (first | exact Below.refl _ _ | refine bstep ?_ b3 | refine bstep ?_ b2 | refine bstep ?_ b1 | refine Below.drew ?_ | refine bstep ?_ (fresh_below _ _))
    · rw [if_neg h0] at hsum
      subst hsum
      have q3 : (m == 0) = false := by simp [h0]
      have q4 : decide (m = 0) = false := by simp [h0]
      go_enter Try.func16, Try.ntmps16
      go_wp2_with fail
      go_region_held_law (fun _ => True) (trivial)
        (first | (go_at_call 25; (with_reducible refine (C1.out _).mono ?_); rintro e w1 ⟨rfl, b1⟩) | (go_at_call 28; (with_reducible refine (C2.out _).mono ?_); rintro e w2 ⟨rfl, b2⟩))
      all_goals
       go_wp2_with fail
       go_region_held_law (fun _ => True) (trivial)
        (first | (go_at_call 29; (with_reducible refine (C4.out _).mono ?_); rintro e w3 ⟨rfl, b3⟩))
       all_goals
        go_wp2
        go_ret
        refine ⟨ret_str HE.out, ?_⟩
        repeat' (first | exact Below.refl _ _ | refine bstep ?_ b3 | refine bstep ?_ b2 | refine bstep ?_ b1 | refine Below.drew ?_ | refine bstep ?_ (fresh_below _ _))
end Go.Proofs.Ythmedjlecikbiaa
