/- The laws of layer 2 that ask the document's answer, walked. -/
import Derived.Test.YtcghhnehmddoeaaRef02
import Derived.Deep.RegionHeld3
set_option linter.unusedVariables false
namespace Go.Proofs.Ytcghhnehmddoeaa
open Go.RowKit

/-- more texts than 8, or longer ones than 400 among the first 9 -/
def greatB (ss : List ByteArray) : Bool := (ss.take 9).any (fun s => decide (400 < s.size)) || decide (8 < ss.length)
theorem great_no {ss : List ByteArray} (h : greatB ss = false) : ss.length ≤ 8 ∧ ∀ s ∈ ss, s.size ≤ 400 := by
  unfold greatB at h
  simp only [Bool.or_eq_false_iff, decide_eq_false_iff_not] at h
  have hl : ss.length ≤ 8 := by omega
  refine ⟨hl, fun s hs => ?_⟩
  have := List.any_eq_false.1 h.1 s (by rw [List.take_of_length_le (by omega)]; exact hs)
  simpa using this

set_option maxHeartbeats 1000000 in
theorem great_any (A : Option Addr) (n c : Nat) (ss : List ByteArray) (w : World) (hr : Row w w.heap.size A n (ss.map Value.string)) (hn : n ≤ 9223372036854775807) :
    Calls Try.prog 14 #[.slice A n c] w fun e w' => e = .returned (.bool (greatB ss)) ∧ w = w' := by
  have hlen : ss.length = n := by simpa using hr.1
  have HN := hide hlen
  clear hlen
  go_enter Try.func14, Try.ntmps14
  go_wp2
  go_loop [3] (fun i => ∃ k : Nat, k ≤ n ∧ k ≤ 9 ∧ i = .int .i64 k ∧ (ss.take k).any (fun s => decide (400 < s.size)) = false) (fun i => n - (intOf i).toNat)
  case atStart => exact ⟨0, Nat.zero_le _, by omega, rfl, by simp⟩
  case round =>
    obtain ⟨k, hk, hk9, rfl, hany⟩ := hrel
    have HA := hide hany
    clear hany
    by_cases hlt : k < n ∧ k < 9
    · obtain ⟨hlt, hl9⟩ := hlt
      obtain ⟨b, o, rfl, hbo, hc⟩ := hr.at_ (by omega)
      have hcell := hc k _ (strs_at (by rw [HN.out]; exact hlt))
      have hsn := take_snoc_s ss k (by rw [HN.out]; exact hlt)
      obtain ⟨s, hs⟩ : ∃ s, s = ss.getD k ByteArray.empty := ⟨_, rfl⟩
      rw [← hs] at hcell hsn
      have HSN := hide hsn
      have hmem : s ∈ ss.take 9 := by
        have : s ∈ ss.take (k + 1) := by rw [hsn]; simp
        exact List.take_subset_take_left ss (by omega) this
      have HM := hide hmem
      clear hsn hs hc hmem
      by_cases hbig : 400 < s.size
      · go_wp2
        go_ret
        refine ⟨ret_bool ?_, rfl⟩
        unfold greatB
        rw [List.any_eq_true.2 ⟨s, HM.out, by simpa using hbig⟩]; rfl
      · go_wp2
        go_round
        case rel => exact ⟨k + 1, by omega, by omega, by go_num, by rw [HSN.out, List.any_append, HA.out]; simp; omega⟩
        case measure => simp [intOf]; omega
    · by_cases hn9 : k < n
      · have hk : k = 9 := by omega
        subst hk
        go_wp2
        go_ret
        refine ⟨ret_bool ?_, rfl⟩
        unfold greatB
        rw [HA.out, HN.out]; simp; omega
      · obtain rfl : k = n := by omega
        go_wp2
        go_ret
        refine ⟨ret_bool ?_, rfl⟩
        unfold greatB
        have e : ss.take 9 = ss.take k := by rw [List.take_of_length_le (by rw [HN.out]; exact hk9), List.take_of_length_le (by rw [HN.out]; exact Nat.le_refl _)]
        rw [e, HA.out, HN.out]; simp; omega

set_option maxHeartbeats 2000000 in
theorem summed (w : World) : Calls Try.prog 15 #[] w (Ret (.bool true) w) := by
  have v1 : add1 65535 1 = 1 := by decide
  have v2 : add1 65535 0 = 65535 := by decide
  have v3 : sumL ([].map L) = 65535 := by decide +kernel
  have v4 : sumL ([({ data := #[0, 1, 242, 3, 244, 245, 246, 247] } : ByteArray)].map L) = 8717 := by decide +kernel
  have v5 : sumL ([({ data := #[1] } : ByteArray)].map L) = 65279 := by decide +kernel
  have v6 : sumL ([({ data := #[1] } : ByteArray), { data := #[1] }].map L) = 65023 := by decide +kernel
  have v7 : holds ([].map L) = false := by decide +kernel
  have v8 : holds ([({ data := #[255, 255] } : ByteArray)].map L) = true := by decide +kernel
  have v9 : upd 8717 1 2 = 8716 := by decide
  have c1 := fun w => Add 65535 1 w (by omega) (by omega)
  have c2 := fun w => Add 65535 0 w (by omega) (by omega)
  have c3 := fun w => Sum none 0 0 [] w Row.nil (by simp) (by omega)
  have c4 := fun (w : World) => Sum (some ⟨w.heap.size, 0, none⟩) 1 1 [({ data := #[0, 1, 242, 3, 244, 245, 246, 247] } : ByteArray)] _ (Row.freshN w #[.string { data := #[0, 1, 242, 3, 244, 245, 246, 247] }] 9 _ _ rfl rfl) (by decide) (by omega)
  have c5 := fun (w : World) => Sum (some ⟨w.heap.size, 0, none⟩) 1 1 [({ data := #[1] } : ByteArray)] _ (Row.freshN w #[.string { data := #[1] }] 9 _ _ rfl rfl) (by decide) (by omega)
  have c6 := fun (w : World) => Sum (some ⟨w.heap.size, 0, none⟩) 2 2 [({ data := #[1] } : ByteArray), { data := #[1] }] _ (Row.freshN w #[.string { data := #[1] }, .string { data := #[1] }] 9 _ _ rfl rfl) (by decide) (by omega)
  have c7 := fun w => Holds none 0 0 [] w Row.nil (by simp) (by omega)
  have c8 := fun (w : World) => Holds (some ⟨w.heap.size, 0, none⟩) 1 1 [({ data := #[255, 255] } : ByteArray)] _ (Row.freshN w #[.string { data := #[255, 255] }] 9 _ _ rfl rfl) (by decide) (by omega)
  have c9 := fun w => Update 8717 1 2 w (by omega) (by omega) (by omega)
  rw [v1] at c1; rw [v2] at c2; rw [v3] at c3; rw [v4] at c4; rw [v5] at c5; rw [v6] at c6; rw [v7] at c7; rw [v8] at c8; rw [v9] at c9
  have C1 := hide c1; have C2 := hide c2; have C3 := hide c3; have C4 := hide c4; have C5 := hide c5; have C6 := hide c6; have C7 := hide c7; have C8 := hide c8; have C9 := hide c9
  clear c1 c2 c3 c4 c5 c6 c7 c8 c9 v1 v2 v3 v4 v5 v6 v7 v8 v9
  go_enter Try.func15, Try.ntmps15
  go_wp2_with fail
  refine (C1.out _).mono ?_
  rintro e w1 ⟨rfl, rfl⟩
  go_wp2_with fail
  refine (C2.out _).mono ?_
  rintro e w2 ⟨rfl, rfl⟩
  go_wp2_with fail
  refine (C3.out _).mono ?_
  rintro e w3 ⟨rfl, b3⟩
  go_wp2_with fail
  refine (C4.out _).mono ?_
  rintro e w4 ⟨rfl, b4⟩
  replace b4 := bstep (bstep b3 (fresh_below _ _)) b4
  go_wp2_with fail
  refine (C5.out _).mono ?_
  rintro e w5 ⟨rfl, b5⟩
  replace b5 := bstep (bstep b4 (fresh_below _ _)) b5
  go_wp2_with fail
  refine (C6.out _).mono ?_
  rintro e w6 ⟨rfl, b6⟩
  replace b6 := bstep (bstep b5 (fresh_below _ _)) b6
  go_wp2_with fail
  refine (C7.out _).mono ?_
  rintro e w7 ⟨rfl, b7⟩
  replace b7 := bstep b6 b7
  go_wp2_with fail
  refine (C8.out _).mono ?_
  rintro e w8 ⟨rfl, b8⟩
  replace b8 := bstep (bstep b7 (fresh_below _ _)) b8
  go_wp2_with fail
  refine (C9.out _).mono ?_
  rintro e w9 ⟨rfl, rfl⟩
  go_wp2_with fail
  go_ret
  exact ⟨rfl, b8⟩

set_option maxHeartbeats 2000000 in
theorem SumsTell_walk (A : Option Addr) (n c : Nat) (ss : List ByteArray) (a b : Int) (w : World) (hr : Row w w.heap.size A n (ss.map Value.string)) (hsz : ∀ s ∈ ss, s.size ≤ maxLen) (hn : n ≤ 9223372036854775807) (ha : 0 ≤ a ∧ a ≤ 65535) (hb : 0 ≤ b ∧ b ≤ 65535) :
    Calls Try.prog 3 #[.slice A n c, .int .u16 a, .int .u16 b] w (Ret (.bool true) w) := by
  have cg := fun w (h : Row w w.heap.size A n (ss.map Value.string)) => great_any A n c ss w h hn
  cases hg : greatB ss with
  | true =>
    rw [hg] at cg
    have CG := hide cg
    clear cg hg hsz
    go_enter Try.func3, Try.ntmps3
    go_wp2_with fail
    refine (CG.out _ hr).mono ?_
    rintro e w1 ⟨rfl, rfl⟩
    go_wp2_with fail
    refine (summed _).mono ?_
    rintro e w1 ⟨rfl, b1⟩
    go_wp2_with fail
    go_ret
    exact ⟨rfl, b1⟩
  | false =>
    rw [hg] at cg
    obtain ⟨hl, hs4⟩ := great_no hg
    have hs : ∀ s ∈ ss, s.size ≤ 140737488351232 := fun s h => by have := hs4 s h; omega
    have CG := hide cg; have HS := hide hs; have HA := hide ha; have HB := hide hb
    clear cg hg hsz hs4 hs ha hb hl
    go_enter Try.func3, Try.ntmps3
    go_wp2_with fail
    refine (CG.out _ hr).mono ?_
    rintro e w1 ⟨rfl, rfl⟩
    go_wp2_with fail
    refine (Sum A n c ss _ hr HS.out hn).mono ?_
    rintro e w1 ⟨rfl, b1⟩
    go_wp2_with fail
    refine (r_Sum A n c ss _ ((hr.below b1).more b1.size) HS.out hn).mono ?_
    rintro e w2 ⟨rfl, b2⟩
    replace b2 := bstep b1 b2
    go_wp2_with fail
    refine (Holds A n c ss _ ((hr.below b2).more b2.size) HS.out hn).mono ?_
    rintro e w3 ⟨rfl, b3⟩
    replace b3 := bstep b2 b3
    go_wp2_with fail
    refine (r_Holds A n c ss _ ((hr.below b3).more b3.size) HS.out hn).mono ?_
    rintro e w4 ⟨rfl, b4⟩
    replace b4 := bstep b3 b4
    go_wp2_with fail
    refine (Add _ _ _ HA.out HB.out).mono ?_
    rintro e w5 ⟨rfl, rfl⟩
    go_wp2_with fail
    refine (r_Add _ _ _ HA.out HB.out).mono ?_
    rintro e w5 ⟨rfl, rfl⟩
    go_wp2_with fail
    refine (summed _).mono ?_
    rintro e w5 ⟨rfl, b5⟩
    replace b5 := bstep b4 b5
    go_wp2_with fail
    go_ret
    exact ⟨rfl, b5⟩

set_option maxHeartbeats 4000000 in
theorem SumsUpdates_walk (n0 n1 n2 : Int) (a b : ByteArray) (w : World) (h0 : 0 ≤ n0 ∧ n0 ≤ 65535) (h1 : 0 ≤ n1 ∧ n1 ≤ 65535) (h2 : 0 ≤ n2 ∧ n2 ≤ 65535) (ha : a.size ≤ 140737488351232) (hb : b.size ≤ 140737488351232) :
    Calls Try.prog 4 #[.agg #[.int .u16 n0, .int .u16 n1, .int .u16 n2], .string a, .string b] w (Ret (.bool true) w) := by
  have cg := great_any (some ⟨w.heap.size + 1, 0, none⟩) 2 2 [a, b] _ (Row.freshAt (w.alloc (.cells #[.int .u16 n0, .int .u16 n1, .int .u16 n2] 31)) #[.string a, .string b] 9 (w.heap.size + 1) _ _ (by simp) rfl rfl) (by omega)
  cases hg : greatB [a, b] with
  | true =>
    rw [hg] at cg
    have CG := hide cg
    clear cg hg
    go_enter Try.func4, Try.ntmps4
    go_wp2_with fail
    refine CG.out.mono ?_
    rintro e w1 ⟨rfl, rfl⟩
    go_wp2_with fail
    refine (summed _).mono ?_
    rintro e w1 ⟨rfl, b1⟩
    go_wp2_with fail
    go_ret
    exact ⟨rfl, bstep (bstep (fresh_below w _) (fresh_below _ _)) b1⟩
  | false =>
    rw [hg] at cg
    have CG := hide cg; have H0 := hide h0; have H1 := hide h1; have H2 := hide h2
    clear cg hg h0 h1 h2
    go_enter Try.func4, Try.ntmps4
    go_wp2_with fail
    refine CG.out.mono ?_
    rintro e w1 ⟨rfl, rfl⟩
    have b0 := bstep (fresh_below w (.cells #[.int .u16 n0, .int .u16 n1, .int .u16 n2] 31)) (fresh_below _ (.cells #[.string a, .string b] 9))
    go_wp2_with fail
    have d0 : ((w.alloc (.cells #[.int .u16 n0, .int .u16 n1, .int .u16 n2] 31)).alloc (.cells #[.string a, .string b] 9)).cell? ⟨w.heap.size, 0, none⟩ = some (.int .u16 n0) := by simp
    have d1 : ((w.alloc (.cells #[.int .u16 n0, .int .u16 n1, .int .u16 n2] 31)).alloc (.cells #[.string a, .string b] 9)).cell? ⟨w.heap.size, 1, none⟩ = some (.int .u16 n1) := by simp
    have d2 : ((w.alloc (.cells #[.int .u16 n0, .int .u16 n1, .int .u16 n2] 31)).alloc (.cells #[.string a, .string b] 9)).cell? ⟨w.heap.size, 2, none⟩ = some (.int .u16 n2) := by simp
    generalize (w.alloc (.cells #[.int .u16 n0, .int .u16 n1, .int .u16 n2] 31)).alloc (.cells #[.string a, .string b] 9) = W0 at *
    go_region_held3 (fun w' => w'.cell? ⟨w.heap.size, 0, none⟩ = some (.int .u16 n0) ∧ w'.cell? ⟨w.heap.size, 1, none⟩ = some (.int .u16 n1) ∧ w'.cell? ⟨w.heap.size, 2, none⟩ = some (.int .u16 n2)) (simp [*])
      (first | (go_at_call 22; refine (Update _ _ _ _ H0.out H1.out H2.out).mono ?_; rintro e w2 ⟨rfl, rfl⟩) | (go_at_call 23; refine (r_Update _ _ _ _ H0.out H1.out H2.out).mono ?_; rintro e w2 ⟨rfl, rfl⟩) | (go_at_call 24; refine (Updates _ _ _ _ H0.out ha hb).mono ?_; rintro e w2 ⟨rfl, b2⟩; have e0 := cellAt b2 d0; have e1 := cellAt b2 d1; have e2 := cellAt b2 d2) | (go_at_call 25; refine (r_Updates _ _ _ _ H0.out ha hb).mono ?_; rintro e w3 ⟨rfl, b3⟩; have f0 := cellAt b3 e0; have f1 := cellAt b3 e1; have f2 := cellAt b3 e2) | (go_at_call 15; refine (summed _).mono ?_; rintro e w4 ⟨rfl, b4⟩; have g0 := cellAt b4 f0; have g1 := cellAt b4 f1; have g2 := cellAt b4 f2))
    go_wp2
    go_ret
    exact ⟨rfl, bstep (bstep (bstep b0.drew b2) b3) b4⟩
end Go.Proofs.Ytcghhnehmddoeaa
