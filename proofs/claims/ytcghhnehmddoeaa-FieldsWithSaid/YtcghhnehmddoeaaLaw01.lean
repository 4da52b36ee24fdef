/- The laws of layer 1 walked: each returns true and leaves what lay there as it lay. -/
import Derived.Test.YtcghhnehmddoeaaRef01
import Derived.Test.YtcghhnehmddoeaaNum
set_option linter.unusedVariables false
namespace Go.Proofs.Ytcghhnehmddoeaa
open Go.RowKit

abbrev OkTrue (w : World) : Ending → World → Prop := Ret (.bool true) w

set_option maxHeartbeats 1000000 in
theorem laid01 (w : World) : Calls Try.prog 26 #[] w (Ret (.bool true) w) := by
  have v1 : get16 (L { data := #[97, 98, 99] }) 1 = 25187 := by decide +kernel
  have v2 : get16 (L { data := #[97, 98, 99] }) 2 = 0 := by decide +kernel
  have v3 : get32 (L { data := #[97, 98, 99] }) 0 = 0 := by decide +kernel
  have v4 : S (putAt (L { data := #[97, 98, 99, 100] }) 1 (L { data := #[88, 89] })) = { data := #[97, 88, 89, 100] } := by decide +kernel
  have v5 : S (putAt (L { data := #[97, 98, 99, 100] }) 3 (L { data := #[88, 89] })) = { data := #[] } := by decide +kernel
  have v6 : S (putAt (L { data := #[97, 98, 99, 100] }) 4 (L { data := #[] })) = { data := #[97, 98, 99, 100] } := by decide +kernel
  have v7 : S (put16 258) = { data := #[1, 2] } := by decide +kernel
  have v8 : S (put32 1) = { data := #[0, 0, 0, 1] } := by decide +kernel
  have v9 : S (putW [1, 2]) = { data := #[0, 1, 0, 2] } := by decide +kernel
  have c1 := fun w => Get16 { data := #[97, 98, 99] } 1 w (by decide) (by omega)
  have c2 := fun w => Get16 { data := #[97, 98, 99] } 2 w (by decide) (by omega)
  have c3 := fun w => Get32 { data := #[97, 98, 99] } 0 w (by decide) (by omega)
  have c4 := fun w => With { data := #[97, 98, 99, 100] } 1 { data := #[88, 89] } w (by decide) (by decide) (by omega)
  have c5 := fun w => With { data := #[97, 98, 99, 100] } 3 { data := #[88, 89] } w (by decide) (by decide) (by omega)
  have c6 := fun w => With { data := #[97, 98, 99, 100] } 4 { data := #[] } w (by decide) (by decide) (by omega)
  rw [v1] at c1; rw [v2] at c2; rw [v3] at c3; rw [v4] at c4; rw [v5] at c5; rw [v6] at c6
  have C1 := hide c1; have C2 := hide c2; have C3 := hide c3; have C4 := hide c4; have C5 := hide c5; have C6 := hide c6
  have V7 := hide v7; have V8 := hide v8; have V9 := hide v9
  clear c1 c2 c3 c4 c5 c6 v1 v2 v3 v4 v5 v6 v7 v8 v9
  go_enter Try.func26, Try.ntmps26
  go_wp2_with fail
  refine (C1.out _).mono ?_
  rintro e w1 ⟨rfl, b1⟩
  go_wp2_with fail
  refine (C2.out _).mono ?_
  rintro e w2 ⟨rfl, b2⟩
  replace b2 := bstep b1 b2
  go_wp2_with fail
  refine (C3.out _).mono ?_
  rintro e w3 ⟨rfl, b3⟩
  replace b3 := bstep b2 b3
  go_wp2_with fail
  refine (C4.out _).mono ?_
  rintro e w4 ⟨rfl, b4⟩
  replace b4 := bstep b3 b4
  go_wp2_with fail
  refine (C5.out _).mono ?_
  rintro e w5 ⟨rfl, b5⟩
  replace b5 := bstep b4 b5
  go_wp2_with fail
  refine (C6.out _).mono ?_
  rintro e w6 ⟨rfl, b6⟩
  replace b6 := bstep b5 b6
  clear b1 b2 b3 b4 b5
  go_wp2_with fail
  refine (Put16 _ _ (by omega) (by omega)).mono ?_
  rintro e w7 ⟨rfl, b7⟩
  replace b7 := bstep b6 b7
  rw [V7.out]
  go_wp2_with fail
  refine (Put32 _ _ (by omega) (by omega)).mono ?_
  rintro e w8 ⟨rfl, b8⟩
  replace b8 := bstep b7 b8
  rw [V8.out]
  go_wp2_with fail
  refine (Word _ 2 _ [1, 2] _ (Row.freshN _ _ _ _ _ rfl rfl) (by simp) (by omega)).mono ?_
  rintro e w9 ⟨rfl, b9⟩
  replace b9 := bstep (bstep b8 (fresh_below _ _)) b9
  rw [V9.out]
  go_wp2_with fail
  go_ret
  exact ⟨rfl, b9⟩

set_option maxHeartbeats 1000000 in
theorem FieldsTell_walk (s : ByteArray) (i : Int) (p : ByteArray) (w : World) (hs : s.size ≤ 140737488351232) (hi : -9223372036854775808 ≤ i ∧ i ≤ 9223372036854775807) (hp : p.size ≤ 140737488351232) :
    Calls Try.prog 5 #[.string s, .int .i64 i, .string p] w (Ret (.bool true) w) := by
  by_cases g1 : s.size ≤ 400
  · by_cases g2 : p.size ≤ 400
    · go_enter Try.func5, Try.ntmps5
      go_wp2_with fail
      refine (Get16 s i _ (reach_max hs) hi).mono ?_
      rintro e w1 ⟨rfl, b1⟩
      go_wp2_with fail
      refine (r_Get16 s i _ (reach_max hs) hi).mono ?_
      rintro e w2 ⟨rfl, b2⟩
      replace b2 := bstep b1 b2
      go_wp2_with fail
      refine (Get32 s i _ (reach_max hs) hi).mono ?_
      rintro e w3 ⟨rfl, b3⟩
      replace b3 := bstep b2 b3
      go_wp2_with fail
      refine (r_Get32 s i _ (reach_max hs) hi).mono ?_
      rintro e w4 ⟨rfl, b4⟩
      replace b4 := bstep b3 b4
      go_wp2_with fail
      refine (With s i p _ hs hp hi).mono ?_
      rintro e w5 ⟨rfl, b5⟩
      replace b5 := bstep b4 b5
      go_wp2_with fail
      refine (r_With s i p _ hs hp hi).mono ?_
      rintro e w6 ⟨rfl, b6⟩
      replace b6 := bstep b5 b6
      go_wp2_with fail
      refine (laid01 _).mono ?_
      rintro e w7 ⟨rfl, b7⟩
      replace b7 := bstep b6 b7
      go_wp2_with fail
      go_ret
      exact ⟨rfl, b7⟩
    · go_enter Try.func5, Try.ntmps5
      go_wp2_with fail
      refine (laid01 _).mono ?_
      rintro e w1 ⟨rfl, b1⟩
      go_wp2_with fail
      go_ret
      exact ⟨rfl, b1⟩
  · go_enter Try.func5, Try.ntmps5
    go_wp2_with fail
    refine (laid01 _).mono ?_
    rintro e w1 ⟨rfl, b1⟩
    go_wp2_with fail
    go_ret
    exact ⟨rfl, b1⟩

set_option maxHeartbeats 1000000 in
theorem FieldsPut_walk (a b : Int) (A : Option Addr) (n c : Nat) (l : List Int) (w : World) (ha : 0 ≤ a ∧ a ≤ 65535) (hb : 0 ≤ b ∧ b ≤ 4294967295) (hr : Row w w.heap.size A n (ints16 l)) (hl : ∀ x ∈ l, 0 ≤ x ∧ x ≤ 65535) (hn : n ≤ 9223372036854775807) :
    Calls Try.prog 6 #[.int .u16 a, .int .u32 b, .slice A n c] w (Ret (.bool true) w) := by
  obtain ⟨ha1, ha2⟩ := ha
  obtain ⟨hb1, hb2⟩ := hb
  have HL := hide hl
  clear hl
  by_cases g1 : n ≤ 200
  · go_enter Try.func6, Try.ntmps6
    go_wp2_with fail
    refine (Put16 a _ ha1 ha2).mono ?_
    rintro e w1 ⟨rfl, b1⟩
    go_wp2_with fail
    refine (r_Put16 a _ ha1 ha2).mono ?_
    rintro e w2 ⟨rfl, b2⟩
    replace b2 := bstep b1 b2
    go_wp2_with fail
    refine (Put32 b _ hb1 hb2).mono ?_
    rintro e w3 ⟨rfl, b3⟩
    replace b3 := bstep b2 b3
    go_wp2_with fail
    refine (r_Put32 b _ hb1 hb2).mono ?_
    rintro e w4 ⟨rfl, b4⟩
    replace b4 := bstep b3 b4
    go_wp2_with fail
    refine (Word A n c l _ ((hr.below b4).more b4.size) HL.out (by omega)).mono ?_
    rintro e w5 ⟨rfl, b5⟩
    replace b5 := bstep b4 b5
    go_wp2_with fail
    refine (r_Word A n c l _ ((hr.below b5).more b5.size) HL.out (by omega)).mono ?_
    rintro e w6 ⟨rfl, b6⟩
    replace b6 := bstep b5 b6
    go_wp2_with fail
    refine (laid01 _).mono ?_
    rintro e w7 ⟨rfl, b7⟩
    replace b7 := bstep b6 b7
    go_wp2_with fail
    go_ret
    exact ⟨rfl, b7⟩
  · go_enter Try.func6, Try.ntmps6
    go_wp2_with fail
    refine (laid01 _).mono ?_
    rintro e w1 ⟨rfl, b1⟩
    go_wp2_with fail
    go_ret
    exact ⟨rfl, b1⟩
end Go.Proofs.Ytcghhnehmddoeaa
