/- ip.Parse and porterref04.Parse over this program; the chapter's examples. -/
import Derived.Test.YtlmpoikjjidgiaaIp8
import Derived.Test.YtlmpoikjjidgiaaIp5
import Derived.Test.YtlmpoikjjidgiaaShelf
set_option linter.unusedVariables false
set_option linter.unusedSimpArgs false
namespace Go.Proofs.Ytlmpoikjjidgiaa
open Go.RowKit
attribute [local go_sem] Oper.semAt_some

theorem i_Parse (s : ByteArray) (w : World) (hs : s.size ≤ 140737488351232) :
    Calls Try.prog 23 #[.string s] w (Ret (.tuple #[.agg (hdRes s).cells, .string (ipRest s), .int .i64 (ipWhy s)]) w) := by
  unfold hdRes ipRest
  by_cases h1 : s.size < 20
  · rw [show ipWhy s = 1 from by unfold ipWhy; rw [if_pos h1], if_neg (by decide), if_neg (by decide)]
    exact i_Parse_1 s w h1
  by_cases h2 : at_ (L s) 0 / 16 ≠ 4
  · rw [show ipWhy s = 2 from by unfold ipWhy; rw [if_neg h1, if_pos h2], if_neg (by decide), if_neg (by decide)]
    exact i_Parse_2 s w hs (by omega) h2
  by_cases h3 : ipFits s = false
  · rw [show ipWhy s = 3 from by unfold ipWhy; rw [if_neg h1, if_neg h2, if_pos h3], if_neg (by decide), if_neg (by decide)]
    exact i_Parse_3 s w hs (by omega) (by omega) h3
  by_cases h4 : holds [(L s).take (ipOwn (L s)).toNat] = false
  · rw [show ipWhy s = 4 from by unfold ipWhy; rw [if_neg h1, if_neg h2, if_neg h3, if_pos h4], if_neg (by decide), if_neg (by decide)]
    exact i_Parse_4 s w hs (by omega) (by omega) (by simpa using h3) h4
  rw [show ipWhy s = if get16 (L s) 6 ≠ 0 ∧ get16 (L s) 6 ≠ 16384 then 5 else 0 from by unfold ipWhy; rw [if_neg h1, if_neg h2, if_neg h3, if_neg h4]]
  replace h1 : 20 ≤ s.size := by omega
  replace h2 : at_ (L s) 0 / 16 = 4 := by omega
  replace h3 : ipFits s = true := by simpa using h3
  replace h4 : holds [(L s).take (ipOwn (L s)).toNat] = true := by simpa using h4
  · skip
    have c := i_Parse_5 s w hs h1 h2 h3 h4
    by_cases h5 : get16 (L s) 6 ≠ 0 ∧ get16 (L s) 6 ≠ 16384
    · rw [if_pos h5] at c ⊢; rw [if_neg (by decide), if_neg (by decide)]; exact c
    · rw [if_neg h5] at c ⊢; rw [if_pos rfl, if_pos rfl]; exact c

theorem r4_Parse (s : ByteArray) (w : World) (hs : s.size ≤ 140737488351232) :
    Calls Try.prog 24 #[.string s] w (Ret (.tuple #[.agg (hdRes s).cells, .string (ipRest s), .int .i64 (ipWhy s)]) w) := by
  unfold hdRes ipRest
  by_cases h1 : s.size < 20
  · rw [show ipWhy s = 1 from by unfold ipWhy; rw [if_pos h1], if_neg (by decide), if_neg (by decide)]
    exact r4_Parse_1 s w h1
  by_cases h2 : at_ (L s) 0 / 16 ≠ 4
  · rw [show ipWhy s = 2 from by unfold ipWhy; rw [if_neg h1, if_pos h2], if_neg (by decide), if_neg (by decide)]
    exact r4_Parse_2 s w hs (by omega) h2
  by_cases h3 : ipFits s = false
  · rw [show ipWhy s = 3 from by unfold ipWhy; rw [if_neg h1, if_neg h2, if_pos h3], if_neg (by decide), if_neg (by decide)]
    exact r4_Parse_3 s w hs (by omega) (by omega) h3
  by_cases h4 : holds [(L s).take (ipOwn (L s)).toNat] = false
  · rw [show ipWhy s = 4 from by unfold ipWhy; rw [if_neg h1, if_neg h2, if_neg h3, if_pos h4], if_neg (by decide), if_neg (by decide)]
    exact r4_Parse_4 s w hs (by omega) (by omega) (by simpa using h3) h4
  rw [show ipWhy s = if get16 (L s) 6 ≠ 0 ∧ get16 (L s) 6 ≠ 16384 then 5 else 0 from by unfold ipWhy; rw [if_neg h1, if_neg h2, if_neg h3, if_neg h4]]
  replace h1 : 20 ≤ s.size := by omega
  replace h2 : at_ (L s) 0 / 16 = 4 := by omega
  replace h3 : ipFits s = true := by simpa using h3
  replace h4 : holds [(L s).take (ipOwn (L s)).toNat] = true := by simpa using h4
  · skip
    by_cases h5 : get16 (L s) 6 ≠ 0 ∧ get16 (L s) 6 ≠ 16384
    · rw [if_pos h5, if_neg (by decide), if_neg (by decide)]; exact r4_Parse_5 s w hs h1 h2 h3 h4 h5
    · rw [if_neg h5, if_pos rfl, if_pos rfl]; exact r4_Parse_0 s w hs h1 h2 h3 h4 (by omega)

theorem i_Parse_no (s : ByteArray) (k : Int) (w : World) (hs : s.size ≤ 140737488351232) (hk : k ≠ 0) (h : ipWhy s = k) :
    Calls Try.prog 23 #[.string s] w (Ret (.tuple #[hdZero, .string { data := #[] }, .int .i64 k]) w) := by
  have c := i_Parse s w hs
  rw [show hdRes s = hdNone from by unfold hdRes; rw [if_neg (by omega)], show ipRest s = { data := #[] } from by unfold ipRest; rw [if_neg (by omega)], h] at c
  exact c

set_option maxRecDepth 100000 in
set_option maxHeartbeats 4000000 in
theorem headed (w : World) : Calls Try.prog 22 #[] w (Ret (.bool true) w) := by
  have v1 : ipText (Hd.mk 0 0 false 64 17 167772161 16909060 { data := #[] }) { data := #[] } = ({ data := #[69, 0, 0, 20, 0, 0, 0, 0, 64, 17, 108, 211, 10, 0, 0, 1, 1, 2, 3, 4] } : ByteArray) := by decide +kernel
  have v2 : ipErr (Hd.mk 0 0 false 64 17 167772161 16909060 { data := #[] }) { data := #[] } = 0 := by decide +kernel
  have v3 : ipWhy { data := #[69, 0, 0, 20, 0, 0, 0, 0, 64, 17, 108, 211, 10, 0, 0, 1, 1, 2, 3, 4] } = 0 := by decide +kernel
  have v4 : hdOf { data := #[69, 0, 0, 20, 0, 0, 0, 0, 64, 17, 108, 211, 10, 0, 0, 1, 1, 2, 3, 4] } = Hd.mk 0 0 false 64 17 167772161 16909060 { data := #[] } := by unfold hdOf; rw [Hd.mk.injEq]; decide +kernel
  have v5 : ({ data := #[69, 0, 0, 20, 0, 0, 0, 0, 64, 17, 108, 211, 10, 0, 0, 1, 1, 2, 3, 4] } : ByteArray).extract (ipOwn (L { data := #[69, 0, 0, 20, 0, 0, 0, 0, 64, 17, 108, 211, 10, 0, 0, 1, 1, 2, 3, 4] })).toNat (ipAll (L { data := #[69, 0, 0, 20, 0, 0, 0, 0, 64, 17, 108, 211, 10, 0, 0, 1, 1, 2, 3, 4] })).toNat = { data := #[] } := by decide +kernel
  have v6 : (⟨(Lib.repeatL ({ data := #[120] } : ByteArray).data.toList 2029).toArray⟩ : ByteArray).size = 2029 := by decide +kernel
  have c1 := fun w => i_Put 0 0 64 17 167772161 16909060 false { data := #[] } { data := #[] } w (by refine ⟨?_, ?_, ?_, ?_, ?_, ?_, ?_⟩ <;> decide) (by decide)
  have c2 := fun w => i_Parse { data := #[69, 0, 0, 20, 0, 0, 0, 0, 64, 17, 108, 211, 10, 0, 0, 1, 1, 2, 3, 4] } w (by decide)
  rw [show hdRes { data := #[69, 0, 0, 20, 0, 0, 0, 0, 64, 17, 108, 211, 10, 0, 0, 1, 1, 2, 3, 4] } = Hd.mk 0 0 false 64 17 167772161 16909060 { data := #[] } from by unfold hdRes; rw [if_pos v3, v4], show ipRest { data := #[69, 0, 0, 20, 0, 0, 0, 0, 64, 17, 108, 211, 10, 0, 0, 1, 1, 2, 3, 4] } = { data := #[] } from by unfold ipRest; rw [if_pos v3, v5], v3] at c2
  rw [v1, v2] at c1
  have c3 := fun w => i_Parse_no (({ data := #[69, 0, 0, 20, 0, 0, 0, 0, 64, 17, 108, 211, 10, 0, 0, 1, 1, 2, 3, 4] } : ByteArray).extract 0 19) 1 w (by decide +kernel) (by decide) (by decide +kernel)
  have c4 := fun w => i_Parse_no (({ data := #[85] } : ByteArray) ++ ({ data := #[69, 0, 0, 20, 0, 0, 0, 0, 64, 17, 108, 211, 10, 0, 0, 1, 1, 2, 3, 4] } : ByteArray).extract 1 20) 2 w (by decide +kernel) (by decide) (by decide +kernel)
  have c5 := fun w => i_Parse_no (({ data := #[70] } : ByteArray) ++ ({ data := #[69, 0, 0, 20, 0, 0, 0, 0, 64, 17, 108, 211, 10, 0, 0, 1, 1, 2, 3, 4] } : ByteArray).extract 1 20) 3 w (by decide +kernel) (by decide) (by decide +kernel)
  have c6 := fun w => i_Parse_no (({ data := #[69, 0, 0, 20, 0, 0, 0, 0, 64, 17, 108, 211, 10, 0, 0, 1, 1, 2, 3, 4] } : ByteArray).extract 0 8 ++ { data := #[63] } ++ ({ data := #[69, 0, 0, 20, 0, 0, 0, 0, 64, 17, 108, 211, 10, 0, 0, 1, 1, 2, 3, 4] } : ByteArray).extract 9 20) 4 w (by decide +kernel) (by decide) (by decide +kernel)
  have c7 := fun w => i_Put 0 0 0 0 0 0 false { data := #[97, 98, 99] } { data := #[] } w (by refine ⟨?_, ?_, ?_, ?_, ?_, ?_, ?_⟩ <;> decide) (by decide)
  rw [show ipErr (Hd.mk 0 0 false 0 0 0 0 { data := #[97, 98, 99] }) { data := #[] } = 2 from by decide +kernel] at c7
  have c8 := fun w => Try.strings_Repeat { data := #[120] } 2029 w (by omega) (by decide)
  rw [show ((2029 : Nat) : Int) = 2029 from rfl] at c8
  obtain ⟨xs, hxs⟩ : ∃ x, x = (⟨(Lib.repeatL ({ data := #[120] } : ByteArray).data.toList 2029).toArray⟩ : ByteArray) := ⟨_, rfl⟩
  rw [← hxs] at c8 v6
  have c9 := fun w => i_Put 0 0 64 17 167772161 16909060 false { data := #[] } xs w (by refine ⟨?_, ?_, ?_, ?_, ?_, ?_, ?_⟩ <;> decide) (by omega)
  rw [show ipErr (Hd.mk 0 0 false 64 17 167772161 16909060 { data := #[] }) xs = 4 from by unfold ipErr; rw [v6]; rfl] at c9
  obtain ⟨t7, ht7⟩ : ∃ x, x = ipText (Hd.mk 0 0 false 0 0 0 0 { data := #[97, 98, 99] }) { data := #[] } := ⟨_, rfl⟩
  obtain ⟨t9, ht9⟩ : ∃ x, x = ipText (Hd.mk 0 0 false 64 17 167772161 16909060 { data := #[] }) xs := ⟨_, rfl⟩
  rw [← ht7] at c7; rw [← ht9] at c9
  unfold Hd.cells at c2
  simp only at c2
  unfold hdZero at c3 c4 c5 c6
  have C1 := hide c1; have C2 := hide c2; have C3 := hide c3; have C4 := hide c4; have C5 := hide c5; have C6 := hide c6; have C7 := hide c7; have C8 := hide c8; have C9 := hide c9
  clear c1 c2 c3 c4 c5 c6 c7 c8 c9 v1 v2 v3 v4 v5 v6 hxs ht7 ht9
  go_enter Try.func22, Try.ntmps22
  have d0 := Cells.new w #[.int .u8 0, .int .u16 0, .bool false, .int .u8 64, .int .u8 17, .int .u32 167772161, .int .u32 16909060, .string { data := #[] }] 48
  go_wp2_with fail
  (with_reducible refine (C1.out _).mono ?_)
  rintro e w1 ⟨rfl, b1⟩
  have d1 := Cells.below b1 d0
  replace b1 : Below w.heap.size w w1 := bstep (fresh_below _ _) b1
  go_wp2_with fail
  (with_reducible refine (C2.out _).mono ?_)
  rintro e w2 ⟨rfl, b2⟩
  have d2 := Cells.below b2 d1
  replace b2 : Below w.heap.size w w2 := bstep b1 b2
  go_wp2_with fail
  (with_reducible refine (C3.out _).mono ?_)
  rintro e w3 ⟨rfl, b3⟩
  have d3 := Cells.up d2 (fresh_below w2 (.cells #[.int .u8 0, .int .u16 0, .bool false, .int .u8 64, .int .u8 17, .int .u32 167772161, .int .u32 16909060, .string { data := #[] }] 48)) b3
  have e3 := Cells.below b3 (Cells.new w2 #[.int .u8 0, .int .u16 0, .bool false, .int .u8 64, .int .u8 17, .int .u32 167772161, .int .u32 16909060, .string { data := #[] }] 48)
  replace b3 : Below w.heap.size w w3 := bstep (bstep b2 (fresh_below _ _)) b3
  go_wp2_with fail
  (with_reducible refine (C4.out _).mono ?_)
  rintro e w4 ⟨rfl, b4⟩
  have d4 := Cells.up d3 (fresh_below w3 (.cells #[.int .u8 0, .int .u16 0, .bool false, .int .u8 0, .int .u8 0, .int .u32 0, .int .u32 0, .string { data := #[] }] 48)) b4
  have e4 := Cells.up e3 (fresh_below w3 (.cells #[.int .u8 0, .int .u16 0, .bool false, .int .u8 0, .int .u8 0, .int .u32 0, .int .u32 0, .string { data := #[] }] 48)) b4
  replace b4 : Below w.heap.size w w4 := bstep (bstep b3 (fresh_below _ _)) b4
  go_wp2_with fail
  (with_reducible refine (C5.out _).mono ?_)
  rintro e w5 ⟨rfl, b5⟩
  have d5 := Cells.up d4 (fresh_below w4 (.cells #[.int .u8 0, .int .u16 0, .bool false, .int .u8 0, .int .u8 0, .int .u32 0, .int .u32 0, .string { data := #[] }] 48)) b5
  have e5 := Cells.up e4 (fresh_below w4 (.cells #[.int .u8 0, .int .u16 0, .bool false, .int .u8 0, .int .u8 0, .int .u32 0, .int .u32 0, .string { data := #[] }] 48)) b5
  replace b5 : Below w.heap.size w w5 := bstep (bstep b4 (fresh_below _ _)) b5
  go_wp2_with fail
  have dA := Cells.alloc d5 (.cells #[.int .u8 0, .int .u16 0, .bool false, .int .u8 0, .int .u8 0, .int .u32 0, .int .u32 0, .string { data := #[] }] 48)
  have eA := Cells.alloc e5 (.cells #[.int .u8 0, .int .u16 0, .bool false, .int .u8 0, .int .u8 0, .int .u32 0, .int .u32 0, .string { data := #[] }] 48)
  have bA : Below w.heap.size w (w5.alloc (.cells #[.int .u8 0, .int .u16 0, .bool false, .int .u8 0, .int .u8 0, .int .u32 0, .int .u32 0, .string { data := #[] }] 48)) := bstep b5 (fresh_below _ _)
  generalize w5.alloc (.cells #[.int .u8 0, .int .u16 0, .bool false, .int .u8 0, .int .u8 0, .int .u32 0, .int .u32 0, .string { data := #[] }] 48) = wA at *
  have n1 : w.heap.size ≠ wA.heap.size := Nat.ne_of_lt dA.lt
  have n2 : w2.heap.size ≠ wA.heap.size := Nat.ne_of_lt eA.lt
  have zA : w.heap.size ≤ wA.heap.size := bA.size
  clear d0 d1 d2 d3 d4 e3 e4
  go_region_held3 (fun _ => True) (trivial)
    (first | (go_at_call 23; (with_reducible refine (C6.out _).mono ?_); rintro e w6 ⟨rfl, b6⟩; have D6 : Cells w6 w.heap.size #[.int .u8 0, .int .u16 0, .bool false, .int .u8 64, .int .u8 17, .int .u32 167772161, .int .u32 16909060, .string { data := #[] }] 48 := (by first | exact Cells.below b6 dA | exact Cells.below b6 (Cells.alloc dA _)); have E6 : Cells w6 w2.heap.size #[.int .u8 0, .int .u16 0, .bool false, .int .u8 64, .int .u8 17, .int .u32 167772161, .int .u32 16909060, .string { data := #[] }] 48 := (by first | exact Cells.below b6 eA | exact Cells.below b6 (Cells.alloc eA _)); (try (have dz := Cells.below b6 (Cells.new _ #[.int .u8 0, .int .u16 0, .bool false, .int .u8 0, .int .u8 0, .int .u32 0, .int .u32 0, .string { data := #[] }] 48); have ax0 : World.cell? _ ⟨_, 0, none⟩ = some (.int .u8 0) := dz.at_ 0; have ay0 := dz.free 0; have ax1 : World.cell? _ ⟨_, 1, none⟩ = some (.int .u16 0) := dz.at_ 1; have ay1 := dz.free 1; have ax2 : World.cell? _ ⟨_, 2, none⟩ = some (.bool false) := dz.at_ 2; have ay2 := dz.free 2; have ax3 : World.cell? _ ⟨_, 3, none⟩ = some (.int .u8 0) := dz.at_ 3; have ay3 := dz.free 3; have ax4 : World.cell? _ ⟨_, 4, none⟩ = some (.int .u8 0) := dz.at_ 4; have ay4 := dz.free 4; have ax5 : World.cell? _ ⟨_, 5, none⟩ = some (.int .u32 0) := dz.at_ 5; have ay5 := dz.free 5; have ax6 : World.cell? _ ⟨_, 6, none⟩ = some (.int .u32 0) := dz.at_ 6; have ay6 := dz.free 6; have ax7 : World.cell? _ ⟨_, 7, none⟩ = some (.string { data := #[] }) := dz.at_ 7; have ay7 := dz.free 7)); have dn := Cells.new w6 #[.int .u8 0, .int .u16 0, .bool false, .int .u8 0, .int .u8 0, .int .u32 0, .int .u32 0, .string { data := #[] }] 48; have bx0 : World.cell? _ ⟨_, 0, none⟩ = some (.int .u8 0) := dn.at_ 0; have by0 := dn.free 0; have bx1 : World.cell? _ ⟨_, 1, none⟩ = some (.int .u16 0) := dn.at_ 1; have by1 := dn.free 1; have bx2 : World.cell? _ ⟨_, 2, none⟩ = some (.bool false) := dn.at_ 2; have by2 := dn.free 2; have bx3 : World.cell? _ ⟨_, 3, none⟩ = some (.int .u8 0) := dn.at_ 3; have by3 := dn.free 3; have bx4 : World.cell? _ ⟨_, 4, none⟩ = some (.int .u8 0) := dn.at_ 4; have by4 := dn.free 4; have bx5 : World.cell? _ ⟨_, 5, none⟩ = some (.int .u32 0) := dn.at_ 5; have by5 := dn.free 5; have bx6 : World.cell? _ ⟨_, 6, none⟩ = some (.int .u32 0) := dn.at_ 6; have by6 := dn.free 6; have bx7 : World.cell? _ ⟨_, 7, none⟩ = some (.string { data := #[] }) := dn.at_ 7; have by7 := dn.free 7))
  all_goals
    replace b6 : Below w.heap.size w w6 := bstep (by (repeat' (first | with_reducible exact bA | with_reducible exact Below.refl _ _ | with_reducible refine Below.setCell ?_ (by first | exact Nat.le_refl _ | (dsimp only; omega)) _ | with_reducible refine bstep ?_ (fresh_below _ _) | with_reducible refine Below.drew ?_))) b6
    have z6 : w.heap.size ≤ w6.heap.size := b6.size
    (try clear ax0 ax1 ax2 ax3 ax4 ax5 ax6 ax7 ay0 ay1 ay2 ay3 ay4 ay5 ay6 ay7 dz)
    clear bx0 bx1 bx2 bx3 bx4 bx5 bx6 bx7 by0 by1 by2 by3 by4 by5 by6 by7 dn
    go_wp2_with fail
    (with_reducible refine (C7.out _).mono ?_)
    rintro e w7 ⟨rfl, b7⟩
    have d7 : Cells w7 w.heap.size #[.int .u8 0, .int .u16 0, .bool false, .int .u8 64, .int .u8 17, .int .u32 167772161, .int .u32 16909060, .string { data := #[] }] 48 := Cells.below b7 (by (repeat' (first | with_reducible exact D6 | with_reducible refine Cells.alloc ?_ _ | with_reducible refine Cells.other ?_ n1 _ _)))
    have e7 : Cells w7 w2.heap.size #[.int .u8 0, .int .u16 0, .bool false, .int .u8 64, .int .u8 17, .int .u32 167772161, .int .u32 16909060, .string { data := #[] }] 48 := Cells.below b7 (by (repeat' (first | with_reducible exact E6 | with_reducible refine Cells.alloc ?_ _ | with_reducible refine Cells.other ?_ n2 _ _)))
    replace b7 : Below w.heap.size w w7 := bstep (by (repeat' (first | with_reducible exact b6 | with_reducible exact Below.refl _ _ | with_reducible refine Below.setCell ?_ (by first | exact Nat.le_refl _ | (dsimp only; omega)) _ | with_reducible refine bstep ?_ (fresh_below _ _) | with_reducible refine Below.drew ?_))) b7
    clear D6 E6
    go_wp2_with fail
    have SK := hide (fun (zX zY : World) (zh : (Below w.heap.size w zX ∧ zX.cell? ⟨w.heap.size, 0, none⟩ = some (.int .u8 0) ∧ zX.cell? ⟨w.heap.size, 1, none⟩ = some (.int .u16 0) ∧ zX.cell? ⟨w.heap.size, 2, none⟩ = some (.bool false) ∧ zX.cell? ⟨w.heap.size, 3, none⟩ = some (.int .u8 64) ∧ zX.cell? ⟨w.heap.size, 4, none⟩ = some (.int .u8 17) ∧ zX.cell? ⟨w.heap.size, 5, none⟩ = some (.int .u32 167772161) ∧ zX.cell? ⟨w.heap.size, 6, none⟩ = some (.int .u32 16909060) ∧ zX.cell? ⟨w.heap.size, 7, none⟩ = some (.string { data := #[] }) ∧ zX.cell? ⟨w2.heap.size, 0, none⟩ = some (.int .u8 0) ∧ zX.cell? ⟨w2.heap.size, 1, none⟩ = some (.int .u16 0) ∧ zX.cell? ⟨w2.heap.size, 2, none⟩ = some (.bool false) ∧ zX.cell? ⟨w2.heap.size, 3, none⟩ = some (.int .u8 64) ∧ zX.cell? ⟨w2.heap.size, 4, none⟩ = some (.int .u8 17) ∧ zX.cell? ⟨w2.heap.size, 5, none⟩ = some (.int .u32 167772161) ∧ zX.cell? ⟨w2.heap.size, 6, none⟩ = some (.int .u32 16909060) ∧ zX.cell? ⟨w2.heap.size, 7, none⟩ = some (.string { data := #[] }) ∧ True)) (zb : Below zX.heap.size zX zY) => (show (Below w.heap.size w zY ∧ zY.cell? ⟨w.heap.size, 0, none⟩ = some (.int .u8 0) ∧ zY.cell? ⟨w.heap.size, 1, none⟩ = some (.int .u16 0) ∧ zY.cell? ⟨w.heap.size, 2, none⟩ = some (.bool false) ∧ zY.cell? ⟨w.heap.size, 3, none⟩ = some (.int .u8 64) ∧ zY.cell? ⟨w.heap.size, 4, none⟩ = some (.int .u8 17) ∧ zY.cell? ⟨w.heap.size, 5, none⟩ = some (.int .u32 167772161) ∧ zY.cell? ⟨w.heap.size, 6, none⟩ = some (.int .u32 16909060) ∧ zY.cell? ⟨w.heap.size, 7, none⟩ = some (.string { data := #[] }) ∧ zY.cell? ⟨w2.heap.size, 0, none⟩ = some (.int .u8 0) ∧ zY.cell? ⟨w2.heap.size, 1, none⟩ = some (.int .u16 0) ∧ zY.cell? ⟨w2.heap.size, 2, none⟩ = some (.bool false) ∧ zY.cell? ⟨w2.heap.size, 3, none⟩ = some (.int .u8 64) ∧ zY.cell? ⟨w2.heap.size, 4, none⟩ = some (.int .u8 17) ∧ zY.cell? ⟨w2.heap.size, 5, none⟩ = some (.int .u32 167772161) ∧ zY.cell? ⟨w2.heap.size, 6, none⟩ = some (.int .u32 16909060) ∧ zY.cell? ⟨w2.heap.size, 7, none⟩ = some (.string { data := #[] }) ∧ True) from ⟨bstep zh.1 zb, cellAt zb zh.2.1, cellAt zb zh.2.2.1, cellAt zb zh.2.2.2.1, cellAt zb zh.2.2.2.2.1, cellAt zb zh.2.2.2.2.2.1, cellAt zb zh.2.2.2.2.2.2.1, cellAt zb zh.2.2.2.2.2.2.2.1, cellAt zb zh.2.2.2.2.2.2.2.2.1, cellAt zb zh.2.2.2.2.2.2.2.2.2.1, cellAt zb zh.2.2.2.2.2.2.2.2.2.2.1, cellAt zb zh.2.2.2.2.2.2.2.2.2.2.2.1, cellAt zb zh.2.2.2.2.2.2.2.2.2.2.2.2.1, cellAt zb zh.2.2.2.2.2.2.2.2.2.2.2.2.2.1, cellAt zb zh.2.2.2.2.2.2.2.2.2.2.2.2.2.2.1, cellAt zb zh.2.2.2.2.2.2.2.2.2.2.2.2.2.2.2.1, cellAt zb zh.2.2.2.2.2.2.2.2.2.2.2.2.2.2.2.2.1, trivial⟩))
    have FS := hide (fun (zX : World) (zh : (Below w.heap.size w zX ∧ zX.cell? ⟨w.heap.size, 0, none⟩ = some (.int .u8 0) ∧ zX.cell? ⟨w.heap.size, 1, none⟩ = some (.int .u16 0) ∧ zX.cell? ⟨w.heap.size, 2, none⟩ = some (.bool false) ∧ zX.cell? ⟨w.heap.size, 3, none⟩ = some (.int .u8 64) ∧ zX.cell? ⟨w.heap.size, 4, none⟩ = some (.int .u8 17) ∧ zX.cell? ⟨w.heap.size, 5, none⟩ = some (.int .u32 167772161) ∧ zX.cell? ⟨w.heap.size, 6, none⟩ = some (.int .u32 16909060) ∧ zX.cell? ⟨w.heap.size, 7, none⟩ = some (.string { data := #[] }) ∧ zX.cell? ⟨w2.heap.size, 0, none⟩ = some (.int .u8 0) ∧ zX.cell? ⟨w2.heap.size, 1, none⟩ = some (.int .u16 0) ∧ zX.cell? ⟨w2.heap.size, 2, none⟩ = some (.bool false) ∧ zX.cell? ⟨w2.heap.size, 3, none⟩ = some (.int .u8 64) ∧ zX.cell? ⟨w2.heap.size, 4, none⟩ = some (.int .u8 17) ∧ zX.cell? ⟨w2.heap.size, 5, none⟩ = some (.int .u32 167772161) ∧ zX.cell? ⟨w2.heap.size, 6, none⟩ = some (.int .u32 16909060) ∧ zX.cell? ⟨w2.heap.size, 7, none⟩ = some (.string { data := #[] }) ∧ True)) => zh.1)
    have GS := hide (fun (zX : World) (zh : (Below w.heap.size w zX ∧ zX.cell? ⟨w.heap.size, 0, none⟩ = some (.int .u8 0) ∧ zX.cell? ⟨w.heap.size, 1, none⟩ = some (.int .u16 0) ∧ zX.cell? ⟨w.heap.size, 2, none⟩ = some (.bool false) ∧ zX.cell? ⟨w.heap.size, 3, none⟩ = some (.int .u8 64) ∧ zX.cell? ⟨w.heap.size, 4, none⟩ = some (.int .u8 17) ∧ zX.cell? ⟨w.heap.size, 5, none⟩ = some (.int .u32 167772161) ∧ zX.cell? ⟨w.heap.size, 6, none⟩ = some (.int .u32 16909060) ∧ zX.cell? ⟨w.heap.size, 7, none⟩ = some (.string { data := #[] }) ∧ zX.cell? ⟨w2.heap.size, 0, none⟩ = some (.int .u8 0) ∧ zX.cell? ⟨w2.heap.size, 1, none⟩ = some (.int .u16 0) ∧ zX.cell? ⟨w2.heap.size, 2, none⟩ = some (.bool false) ∧ zX.cell? ⟨w2.heap.size, 3, none⟩ = some (.int .u8 64) ∧ zX.cell? ⟨w2.heap.size, 4, none⟩ = some (.int .u8 17) ∧ zX.cell? ⟨w2.heap.size, 5, none⟩ = some (.int .u32 167772161) ∧ zX.cell? ⟨w2.heap.size, 6, none⟩ = some (.int .u32 16909060) ∧ zX.cell? ⟨w2.heap.size, 7, none⟩ = some (.string { data := #[] }) ∧ True)) => zh)
    have hS0 : (Below w.heap.size w w7 ∧ w7.cell? ⟨w.heap.size, 0, none⟩ = some (.int .u8 0) ∧ w7.cell? ⟨w.heap.size, 1, none⟩ = some (.int .u16 0) ∧ w7.cell? ⟨w.heap.size, 2, none⟩ = some (.bool false) ∧ w7.cell? ⟨w.heap.size, 3, none⟩ = some (.int .u8 64) ∧ w7.cell? ⟨w.heap.size, 4, none⟩ = some (.int .u8 17) ∧ w7.cell? ⟨w.heap.size, 5, none⟩ = some (.int .u32 167772161) ∧ w7.cell? ⟨w.heap.size, 6, none⟩ = some (.int .u32 16909060) ∧ w7.cell? ⟨w.heap.size, 7, none⟩ = some (.string { data := #[] }) ∧ w7.cell? ⟨w2.heap.size, 0, none⟩ = some (.int .u8 0) ∧ w7.cell? ⟨w2.heap.size, 1, none⟩ = some (.int .u16 0) ∧ w7.cell? ⟨w2.heap.size, 2, none⟩ = some (.bool false) ∧ w7.cell? ⟨w2.heap.size, 3, none⟩ = some (.int .u8 64) ∧ w7.cell? ⟨w2.heap.size, 4, none⟩ = some (.int .u8 17) ∧ w7.cell? ⟨w2.heap.size, 5, none⟩ = some (.int .u32 167772161) ∧ w7.cell? ⟨w2.heap.size, 6, none⟩ = some (.int .u32 16909060) ∧ w7.cell? ⟨w2.heap.size, 7, none⟩ = some (.string { data := #[] }) ∧ True) := ⟨(by (repeat' (first | with_reducible exact b7 | with_reducible exact Below.refl _ _ | with_reducible refine Below.setCell ?_ (by first | exact Nat.le_refl _ | (dsimp only; omega)) _ | with_reducible refine bstep ?_ (fresh_below _ _) | with_reducible refine Below.drew ?_))), d7.at_ 0, d7.at_ 1, d7.at_ 2, d7.at_ 3, d7.at_ 4, d7.at_ 5, d7.at_ 6, d7.at_ 7, e7.at_ 0, e7.at_ 1, e7.at_ 2, e7.at_ 3, e7.at_ 4, e7.at_ 5, e7.at_ 6, e7.at_ 7, trivial⟩
    go_region_held3 (fun w' => (Below w.heap.size w w' ∧ w'.cell? ⟨w.heap.size, 0, none⟩ = some (.int .u8 0) ∧ w'.cell? ⟨w.heap.size, 1, none⟩ = some (.int .u16 0) ∧ w'.cell? ⟨w.heap.size, 2, none⟩ = some (.bool false) ∧ w'.cell? ⟨w.heap.size, 3, none⟩ = some (.int .u8 64) ∧ w'.cell? ⟨w.heap.size, 4, none⟩ = some (.int .u8 17) ∧ w'.cell? ⟨w.heap.size, 5, none⟩ = some (.int .u32 167772161) ∧ w'.cell? ⟨w.heap.size, 6, none⟩ = some (.int .u32 16909060) ∧ w'.cell? ⟨w.heap.size, 7, none⟩ = some (.string { data := #[] }) ∧ w'.cell? ⟨w2.heap.size, 0, none⟩ = some (.int .u8 0) ∧ w'.cell? ⟨w2.heap.size, 1, none⟩ = some (.int .u16 0) ∧ w'.cell? ⟨w2.heap.size, 2, none⟩ = some (.bool false) ∧ w'.cell? ⟨w2.heap.size, 3, none⟩ = some (.int .u8 64) ∧ w'.cell? ⟨w2.heap.size, 4, none⟩ = some (.int .u8 17) ∧ w'.cell? ⟨w2.heap.size, 5, none⟩ = some (.int .u32 167772161) ∧ w'.cell? ⟨w2.heap.size, 6, none⟩ = some (.int .u32 16909060) ∧ w'.cell? ⟨w2.heap.size, 7, none⟩ = some (.string { data := #[] }) ∧ True)) (first | assumption | exact SK.out _ _ hS0 (Below.refl _ _).drew | exact SK.out _ _ hS0 (fresh_below _ _).drew | exact SK.out _ _ (by assumption) (fresh_below _ _) | (refine SK.out _ _ ?_ (by assumption); assumption))
      (first | (go_at_call 28; (with_reducible refine (C8.out _).mono ?_); rintro e wq ⟨rfl, bq⟩) | (go_at_call 25; (with_reducible refine (C9.out _).mono ?_); rintro e wq ⟨rfl, bq⟩))
    all_goals
      have gs := GS.out _ (by assumption)
      obtain ⟨gb, g0, g1, g2, g3, g4, g5, g6, g7, g8, g9, g10, g11, g12, g13, g14, g15, _⟩ := gs
      go_wp2
      go_ret
      exact ⟨rfl, (by first | exact FS.out _ (by assumption) | exact bstep (FS.out _ (by assumption)) (fresh_below _ _) | exact bstep (bstep (FS.out _ (by assumption)) (fresh_below _ _)) (fresh_below _ _))⟩
end Go.Proofs.Ytlmpoikjjidgiaa
