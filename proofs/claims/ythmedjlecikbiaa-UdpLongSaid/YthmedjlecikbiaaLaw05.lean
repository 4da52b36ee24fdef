/- The laws of layer 5 that ask the document's answer, walked. -/
import Derived.Test.YthmedjlecikbiaaUdpCheck
import Derived.Test.YthmedjlecikbiaaUdpSeal
set_option linter.unusedVariables false
namespace Go.Proofs.Ythmedjlecikbiaa
open Go.RowKit
attribute [local go_sem] Oper.semAt_some

set_option maxHeartbeats 2000000 in
theorem sent (w : World) : Calls Try.prog 8 #[] w (Ret (.bool true) w) := by
  have v1 : S (udpWords 1 2 ((8 + (({ data := #[97, 98] } : ByteArray).size : Int)) % 65536) 0 ++ L { data := #[97, 98] }) = ({ data := #[0, 1, 0, 2, 0, 10, 0, 0, 97, 98] } : ByteArray) := by decide +kernel
  have v2 : S (udpSeal 16909060 84281096 (L { data := #[0, 1, 0, 2, 0, 10, 0, 0, 97, 98] })) = ({ data := #[0, 1, 0, 2, 0, 10, 142, 97, 97, 98] } : ByteArray) := by decide +kernel
  have v3 : udpIs { data := #[0, 1, 0, 2, 0, 8, 0, 0, 97] } = false := by decide +kernel
  have v4 : udpOk 16909060 84281096 { data := #[0, 1, 0, 2, 0, 10, 0, 0, 97, 98] } = true := by decide +kernel
  have v5 : udpOk 16909060 84281096 { data := #[0, 1, 0, 2, 0, 10, 142, 97, 97, 98] } = true := by decide +kernel
  have v6 : udpOk 16909061 84281096 { data := #[0, 1, 0, 2, 0, 10, 142, 97, 97, 98] } = false := by decide +kernel
  have c1 := fun w => udp_Put 1 2 99 0 { data := #[97, 98] } w (by omega) (by omega) (by omega) (by decide)
  have c2 := fun w => udp_Seal 16909060 84281096 { data := #[0, 1, 0, 2, 0, 10, 0, 0, 97, 98] } w (by omega) (by omega) (by decide)
  have c3 := fun w => udp_Parse_no { data := #[0, 1, 0, 2, 0, 8, 0, 0, 97] } w (by decide) v3
  have c4 := fun w => udp_Check 16909060 84281096 { data := #[0, 1, 0, 2, 0, 10, 0, 0, 97, 98] } w (by omega) (by omega) (by decide)
  have c5 := fun w => udp_Check 16909060 84281096 { data := #[0, 1, 0, 2, 0, 10, 142, 97, 97, 98] } w (by omega) (by omega) (by decide)
  have c6 := fun w => udp_Check 16909061 84281096 { data := #[0, 1, 0, 2, 0, 10, 142, 97, 97, 98] } w (by omega) (by omega) (by decide)
  unfold udpNone at c3
  rw [v1] at c1; rw [v2] at c2; rw [v4] at c4; rw [v5] at c5; rw [v6] at c6
  have C1 := hide c1; have C2 := hide c2; have C3 := hide c3; have C4 := hide c4; have C5 := hide c5; have C6 := hide c6
  clear c1 c2 c3 c4 c5 c6 v1 v2 v3 v4 v5 v6
  go_enter Try.func8, Try.ntmps8
  go_wp2_with fail
  refine (C1.out _).mono ?_
  rintro e w1 ⟨rfl, b1⟩
  replace b1 : Below w.heap.size w w1 := by first | exact bstep (Below.refl w.heap.size w) b1 | exact bstep (bstep (Below.refl w.heap.size w) (fresh_below _ _)) b1 | exact bstep (bstep (bstep (Below.refl w.heap.size w) (fresh_below _ _)) (fresh_below _ _)) b1 | exact bstep (bstep (bstep (bstep (Below.refl w.heap.size w) (fresh_below _ _)) (fresh_below _ _)) (fresh_below _ _)) b1 | exact bstep (bstep (bstep (bstep (bstep (Below.refl w.heap.size w) (fresh_below _ _)) (fresh_below _ _)) (fresh_below _ _)) (fresh_below _ _)) b1 | exact bstep (bstep (bstep (bstep (bstep (bstep (Below.refl w.heap.size w) (fresh_below _ _)) (fresh_below _ _)) (fresh_below _ _)) (fresh_below _ _)) (fresh_below _ _)) b1
  go_wp2_with fail
  refine (C2.out _).mono ?_
  rintro e w2 ⟨rfl, b2⟩
  replace b2 : Below w.heap.size w w2 := by first | exact bstep b1 b2 | exact bstep (bstep b1 (fresh_below _ _)) b2 | exact bstep (bstep (bstep b1 (fresh_below _ _)) (fresh_below _ _)) b2 | exact bstep (bstep (bstep (bstep b1 (fresh_below _ _)) (fresh_below _ _)) (fresh_below _ _)) b2 | exact bstep (bstep (bstep (bstep (bstep b1 (fresh_below _ _)) (fresh_below _ _)) (fresh_below _ _)) (fresh_below _ _)) b2 | exact bstep (bstep (bstep (bstep (bstep (bstep b1 (fresh_below _ _)) (fresh_below _ _)) (fresh_below _ _)) (fresh_below _ _)) (fresh_below _ _)) b2
  go_wp2_with fail
  refine (C3.out _).mono ?_
  rintro e w3 ⟨rfl, b3⟩
  replace b3 : Below w.heap.size w w3 := by first | exact bstep b2 b3 | exact bstep (bstep b2 (fresh_below _ _)) b3 | exact bstep (bstep (bstep b2 (fresh_below _ _)) (fresh_below _ _)) b3 | exact bstep (bstep (bstep (bstep b2 (fresh_below _ _)) (fresh_below _ _)) (fresh_below _ _)) b3 | exact bstep (bstep (bstep (bstep (bstep b2 (fresh_below _ _)) (fresh_below _ _)) (fresh_below _ _)) (fresh_below _ _)) b3 | exact bstep (bstep (bstep (bstep (bstep (bstep b2 (fresh_below _ _)) (fresh_below _ _)) (fresh_below _ _)) (fresh_below _ _)) (fresh_below _ _)) b3
  go_wp2_with fail
  refine (C4.out _).mono ?_
  rintro e w4 ⟨rfl, b4⟩
  replace b4 : Below w.heap.size w w4 := by first | exact bstep b3 b4 | exact bstep (bstep b3 (fresh_below _ _)) b4 | exact bstep (bstep (bstep b3 (fresh_below _ _)) (fresh_below _ _)) b4 | exact bstep (bstep (bstep (bstep b3 (fresh_below _ _)) (fresh_below _ _)) (fresh_below _ _)) b4 | exact bstep (bstep (bstep (bstep (bstep b3 (fresh_below _ _)) (fresh_below _ _)) (fresh_below _ _)) (fresh_below _ _)) b4 | exact bstep (bstep (bstep (bstep (bstep (bstep b3 (fresh_below _ _)) (fresh_below _ _)) (fresh_below _ _)) (fresh_below _ _)) (fresh_below _ _)) b4
  go_wp2_with fail
  refine (C5.out _).mono ?_
  rintro e w5 ⟨rfl, b5⟩
  replace b5 : Below w.heap.size w w5 := by first | exact bstep b4 b5 | exact bstep (bstep b4 (fresh_below _ _)) b5 | exact bstep (bstep (bstep b4 (fresh_below _ _)) (fresh_below _ _)) b5 | exact bstep (bstep (bstep (bstep b4 (fresh_below _ _)) (fresh_below _ _)) (fresh_below _ _)) b5 | exact bstep (bstep (bstep (bstep (bstep b4 (fresh_below _ _)) (fresh_below _ _)) (fresh_below _ _)) (fresh_below _ _)) b5 | exact bstep (bstep (bstep (bstep (bstep (bstep b4 (fresh_below _ _)) (fresh_below _ _)) (fresh_below _ _)) (fresh_below _ _)) (fresh_below _ _)) b5
  go_wp2_with fail
  refine (C6.out _).mono ?_
  rintro e w6 ⟨rfl, b6⟩
  replace b6 : Below w.heap.size w w6 := by first | exact bstep b5 b6 | exact bstep (bstep b5 (fresh_below _ _)) b6 | exact bstep (bstep (bstep b5 (fresh_below _ _)) (fresh_below _ _)) b6 | exact bstep (bstep (bstep (bstep b5 (fresh_below _ _)) (fresh_below _ _)) (fresh_below _ _)) b6 | exact bstep (bstep (bstep (bstep (bstep b5 (fresh_below _ _)) (fresh_below _ _)) (fresh_below _ _)) (fresh_below _ _)) b6 | exact bstep (bstep (bstep (bstep (bstep (bstep b5 (fresh_below _ _)) (fresh_below _ _)) (fresh_below _ _)) (fresh_below _ _)) (fresh_below _ _)) b6
  go_wp2_with fail
  go_ret
  exact ⟨rfl, (by first | exact b6 | exact (bstep b6 (fresh_below _ _)) | exact (bstep (bstep b6 (fresh_below _ _)) (fresh_below _ _)) | exact (bstep (bstep (bstep b6 (fresh_below _ _)) (fresh_below _ _)) (fresh_below _ _)) | exact (bstep (bstep (bstep (bstep b6 (fresh_below _ _)) (fresh_below _ _)) (fresh_below _ _)) (fresh_below _ _)) | exact (bstep (bstep (bstep (bstep (bstep b6 (fresh_below _ _)) (fresh_below _ _)) (fresh_below _ _)) (fresh_below _ _)) (fresh_below _ _)))⟩

set_option maxHeartbeats 2000000 in
theorem UdpTell_walk (s : ByteArray) (a b c d : Int) (p : ByteArray) (w : World) (hs : s.size ≤ 140737488351232) (ha : 0 ≤ a ∧ a ≤ 65535) (hb : 0 ≤ b ∧ b ≤ 65535) (hc : 0 ≤ c ∧ c ≤ 65535) (hd : 0 ≤ d ∧ d ≤ 65535) (hp : p.size ≤ 140737488351232) :
    Calls Try.prog 3 #[.string s, .agg #[.int .u16 a, .int .u16 b, .int .u16 c, .int .u16 d], .string p] w (Ret (.bool true) w) := by
  have cp := fun w => udp_Put a b c d p w ha hb hd hp
  have cq := fun w => r5_Put a b c d p w ha hb hd hp
  obtain ⟨t, ht⟩ : ∃ t, t = S (udpWords a b ((8 + p.size) % 65536) d ++ L p) := ⟨_, rfl⟩
  rw [← ht] at cp cq
  have CP := hide cp; have CQ := hide cq
  clear cp cq ht
  by_cases g1 : 600 < s.size
  · go_enter Try.func3, Try.ntmps3
    go_wp2_with fail
    refine (sent _).mono ?_
    rintro e w1 ⟨rfl, b1⟩
    replace b1 : Below w.heap.size w w1 := by first | exact bstep (Below.refl w.heap.size w) b1 | exact bstep (bstep (Below.refl w.heap.size w) (fresh_below _ _)) b1 | exact bstep (bstep (bstep (Below.refl w.heap.size w) (fresh_below _ _)) (fresh_below _ _)) b1 | exact bstep (bstep (bstep (bstep (Below.refl w.heap.size w) (fresh_below _ _)) (fresh_below _ _)) (fresh_below _ _)) b1 | exact bstep (bstep (bstep (bstep (bstep (Below.refl w.heap.size w) (fresh_below _ _)) (fresh_below _ _)) (fresh_below _ _)) (fresh_below _ _)) b1 | exact bstep (bstep (bstep (bstep (bstep (bstep (Below.refl w.heap.size w) (fresh_below _ _)) (fresh_below _ _)) (fresh_below _ _)) (fresh_below _ _)) (fresh_below _ _)) b1
    go_wp2_with fail
    go_ret
    exact ⟨rfl, (by first | exact b1 | exact (bstep b1 (fresh_below _ _)) | exact (bstep (bstep b1 (fresh_below _ _)) (fresh_below _ _)) | exact (bstep (bstep (bstep b1 (fresh_below _ _)) (fresh_below _ _)) (fresh_below _ _)) | exact (bstep (bstep (bstep (bstep b1 (fresh_below _ _)) (fresh_below _ _)) (fresh_below _ _)) (fresh_below _ _)) | exact (bstep (bstep (bstep (bstep (bstep b1 (fresh_below _ _)) (fresh_below _ _)) (fresh_below _ _)) (fresh_below _ _)) (fresh_below _ _)))⟩
  · by_cases g2 : 600 < p.size
    · go_enter Try.func3, Try.ntmps3
      go_wp2_with fail
      refine (sent _).mono ?_
      rintro e w1 ⟨rfl, b1⟩
      replace b1 : Below w.heap.size w w1 := by first | exact bstep (Below.refl w.heap.size w) b1 | exact bstep (bstep (Below.refl w.heap.size w) (fresh_below _ _)) b1 | exact bstep (bstep (bstep (Below.refl w.heap.size w) (fresh_below _ _)) (fresh_below _ _)) b1 | exact bstep (bstep (bstep (bstep (Below.refl w.heap.size w) (fresh_below _ _)) (fresh_below _ _)) (fresh_below _ _)) b1 | exact bstep (bstep (bstep (bstep (bstep (Below.refl w.heap.size w) (fresh_below _ _)) (fresh_below _ _)) (fresh_below _ _)) (fresh_below _ _)) b1 | exact bstep (bstep (bstep (bstep (bstep (bstep (Below.refl w.heap.size w) (fresh_below _ _)) (fresh_below _ _)) (fresh_below _ _)) (fresh_below _ _)) (fresh_below _ _)) b1
      go_wp2_with fail
      go_ret
      exact ⟨rfl, (by first | exact b1 | exact (bstep b1 (fresh_below _ _)) | exact (bstep (bstep b1 (fresh_below _ _)) (fresh_below _ _)) | exact (bstep (bstep (bstep b1 (fresh_below _ _)) (fresh_below _ _)) (fresh_below _ _)) | exact (bstep (bstep (bstep (bstep b1 (fresh_below _ _)) (fresh_below _ _)) (fresh_below _ _)) (fresh_below _ _)) | exact (bstep (bstep (bstep (bstep (bstep b1 (fresh_below _ _)) (fresh_below _ _)) (fresh_below _ _)) (fresh_below _ _)) (fresh_below _ _)))⟩
    · by_cases h : udpIs s = true
      · have c1 := fun w => udp_Parse_yes s w (reach_max hs) h
        have c2 := fun w => r5_Parse_yes s w (reach_max hs) h
        unfold udpHead at c1 c2
        obtain ⟨x0, e0⟩ : ∃ x, x = get16 (L s) 0 := ⟨_, rfl⟩
        obtain ⟨x2, e2⟩ : ∃ x, x = get16 (L s) 2 := ⟨_, rfl⟩
        obtain ⟨x4, e4⟩ : ∃ x, x = get16 (L s) 4 := ⟨_, rfl⟩
        obtain ⟨x6, e6⟩ : ∃ x, x = get16 (L s) 6 := ⟨_, rfl⟩
        obtain ⟨q, hq⟩ : ∃ q, q = S ((L s).drop 8) := ⟨_, rfl⟩
        rw [← e0, ← e2, ← e4, ← e6, ← hq] at c1 c2
        have C1 := hide c1; have C2 := hide c2
        clear c1 c2 e0 e2 e4 e6 hq h
        go_enter Try.func3, Try.ntmps3
        have d0 := Cells.new w #[.int .u16 a, .int .u16 b, .int .u16 c, .int .u16 d] 24
        go_wp2_with fail
        refine (C1.out _).mono ?_
        rintro e w1 ⟨rfl, b1⟩
        replace d0 := Cells.below b1 d0
        replace b1 : Below w.heap.size w w1 := by first | exact bstep (Below.refl w.heap.size w) b1 | exact bstep (bstep (Below.refl w.heap.size w) (fresh_below _ _)) b1 | exact bstep (bstep (bstep (Below.refl w.heap.size w) (fresh_below _ _)) (fresh_below _ _)) b1 | exact bstep (bstep (bstep (bstep (Below.refl w.heap.size w) (fresh_below _ _)) (fresh_below _ _)) (fresh_below _ _)) b1 | exact bstep (bstep (bstep (bstep (bstep (Below.refl w.heap.size w) (fresh_below _ _)) (fresh_below _ _)) (fresh_below _ _)) (fresh_below _ _)) b1 | exact bstep (bstep (bstep (bstep (bstep (bstep (Below.refl w.heap.size w) (fresh_below _ _)) (fresh_below _ _)) (fresh_below _ _)) (fresh_below _ _)) (fresh_below _ _)) b1
        replace d0 := Cells.below (fresh_below w1 (.cells #[.int .u16 x0, .int .u16 x2, .int .u16 x4, .int .u16 x6] 24)) d0
        have d1 := Cells.new w1 #[.int .u16 x0, .int .u16 x2, .int .u16 x4, .int .u16 x6] 24
        go_wp2_with fail
        refine (C2.out _).mono ?_
        rintro e w2 ⟨rfl, b2⟩
        replace d0 := Cells.below b2 d0
        replace d1 := Cells.below b2 d1
        replace b2 : Below w.heap.size w w2 := by first | exact bstep b1 b2 | exact bstep (bstep b1 (fresh_below _ _)) b2 | exact bstep (bstep (bstep b1 (fresh_below _ _)) (fresh_below _ _)) b2 | exact bstep (bstep (bstep (bstep b1 (fresh_below _ _)) (fresh_below _ _)) (fresh_below _ _)) b2 | exact bstep (bstep (bstep (bstep (bstep b1 (fresh_below _ _)) (fresh_below _ _)) (fresh_below _ _)) (fresh_below _ _)) b2 | exact bstep (bstep (bstep (bstep (bstep (bstep b1 (fresh_below _ _)) (fresh_below _ _)) (fresh_below _ _)) (fresh_below _ _)) (fresh_below _ _)) b2
        replace d0 := Cells.below (fresh_below w2 (.cells #[.int .u16 x0, .int .u16 x2, .int .u16 x4, .int .u16 x6] 28)) d0
        replace d1 := Cells.below (fresh_below w2 (.cells #[.int .u16 x0, .int .u16 x2, .int .u16 x4, .int .u16 x6] 28)) d1
        have d2 := Cells.new w2 #[.int .u16 x0, .int .u16 x2, .int .u16 x4, .int .u16 x6] 28
        go_wp2_with fail
        have SK := hide (fun (zX zY : World) (zh : (Below w.heap.size w zX ∧ zX.cell? ⟨w.heap.size, 0, none⟩ = some (.int .u16 a) ∧ zX.cell? ⟨w.heap.size, 1, none⟩ = some (.int .u16 b) ∧ zX.cell? ⟨w.heap.size, 2, none⟩ = some (.int .u16 c) ∧ zX.cell? ⟨w.heap.size, 3, none⟩ = some (.int .u16 d) ∧ zX.cell? ⟨w1.heap.size, 0, none⟩ = some (.int .u16 x0) ∧ zX.cell? ⟨w1.heap.size, 1, none⟩ = some (.int .u16 x2) ∧ zX.cell? ⟨w1.heap.size, 2, none⟩ = some (.int .u16 x4) ∧ zX.cell? ⟨w1.heap.size, 3, none⟩ = some (.int .u16 x6) ∧ zX.cell? ⟨w2.heap.size, 0, none⟩ = some (.int .u16 x0) ∧ zX.cell? ⟨w2.heap.size, 1, none⟩ = some (.int .u16 x2) ∧ zX.cell? ⟨w2.heap.size, 2, none⟩ = some (.int .u16 x4) ∧ zX.cell? ⟨w2.heap.size, 3, none⟩ = some (.int .u16 x6) ∧ True)) (zb : Below zX.heap.size zX zY) => (show (Below w.heap.size w zY ∧ zY.cell? ⟨w.heap.size, 0, none⟩ = some (.int .u16 a) ∧ zY.cell? ⟨w.heap.size, 1, none⟩ = some (.int .u16 b) ∧ zY.cell? ⟨w.heap.size, 2, none⟩ = some (.int .u16 c) ∧ zY.cell? ⟨w.heap.size, 3, none⟩ = some (.int .u16 d) ∧ zY.cell? ⟨w1.heap.size, 0, none⟩ = some (.int .u16 x0) ∧ zY.cell? ⟨w1.heap.size, 1, none⟩ = some (.int .u16 x2) ∧ zY.cell? ⟨w1.heap.size, 2, none⟩ = some (.int .u16 x4) ∧ zY.cell? ⟨w1.heap.size, 3, none⟩ = some (.int .u16 x6) ∧ zY.cell? ⟨w2.heap.size, 0, none⟩ = some (.int .u16 x0) ∧ zY.cell? ⟨w2.heap.size, 1, none⟩ = some (.int .u16 x2) ∧ zY.cell? ⟨w2.heap.size, 2, none⟩ = some (.int .u16 x4) ∧ zY.cell? ⟨w2.heap.size, 3, none⟩ = some (.int .u16 x6) ∧ True) from ⟨bstep zh.1 zb, cellAt zb zh.2.1, cellAt zb zh.2.2.1, cellAt zb zh.2.2.2.1, cellAt zb zh.2.2.2.2.1, cellAt zb zh.2.2.2.2.2.1, cellAt zb zh.2.2.2.2.2.2.1, cellAt zb zh.2.2.2.2.2.2.2.1, cellAt zb zh.2.2.2.2.2.2.2.2.1, cellAt zb zh.2.2.2.2.2.2.2.2.2.1, cellAt zb zh.2.2.2.2.2.2.2.2.2.2.1, cellAt zb zh.2.2.2.2.2.2.2.2.2.2.2.1, cellAt zb zh.2.2.2.2.2.2.2.2.2.2.2.2.1, trivial⟩))
        have FS := hide (fun (zX : World) (zh : (Below w.heap.size w zX ∧ zX.cell? ⟨w.heap.size, 0, none⟩ = some (.int .u16 a) ∧ zX.cell? ⟨w.heap.size, 1, none⟩ = some (.int .u16 b) ∧ zX.cell? ⟨w.heap.size, 2, none⟩ = some (.int .u16 c) ∧ zX.cell? ⟨w.heap.size, 3, none⟩ = some (.int .u16 d) ∧ zX.cell? ⟨w1.heap.size, 0, none⟩ = some (.int .u16 x0) ∧ zX.cell? ⟨w1.heap.size, 1, none⟩ = some (.int .u16 x2) ∧ zX.cell? ⟨w1.heap.size, 2, none⟩ = some (.int .u16 x4) ∧ zX.cell? ⟨w1.heap.size, 3, none⟩ = some (.int .u16 x6) ∧ zX.cell? ⟨w2.heap.size, 0, none⟩ = some (.int .u16 x0) ∧ zX.cell? ⟨w2.heap.size, 1, none⟩ = some (.int .u16 x2) ∧ zX.cell? ⟨w2.heap.size, 2, none⟩ = some (.int .u16 x4) ∧ zX.cell? ⟨w2.heap.size, 3, none⟩ = some (.int .u16 x6) ∧ True)) => zh.1)
        have hS0 : (Below w.heap.size w (w2.alloc (.cells #[.int .u16 x0, .int .u16 x2, .int .u16 x4, .int .u16 x6] 28)) ∧ (w2.alloc (.cells #[.int .u16 x0, .int .u16 x2, .int .u16 x4, .int .u16 x6] 28)).cell? ⟨w.heap.size, 0, none⟩ = some (.int .u16 a) ∧ (w2.alloc (.cells #[.int .u16 x0, .int .u16 x2, .int .u16 x4, .int .u16 x6] 28)).cell? ⟨w.heap.size, 1, none⟩ = some (.int .u16 b) ∧ (w2.alloc (.cells #[.int .u16 x0, .int .u16 x2, .int .u16 x4, .int .u16 x6] 28)).cell? ⟨w.heap.size, 2, none⟩ = some (.int .u16 c) ∧ (w2.alloc (.cells #[.int .u16 x0, .int .u16 x2, .int .u16 x4, .int .u16 x6] 28)).cell? ⟨w.heap.size, 3, none⟩ = some (.int .u16 d) ∧ (w2.alloc (.cells #[.int .u16 x0, .int .u16 x2, .int .u16 x4, .int .u16 x6] 28)).cell? ⟨w1.heap.size, 0, none⟩ = some (.int .u16 x0) ∧ (w2.alloc (.cells #[.int .u16 x0, .int .u16 x2, .int .u16 x4, .int .u16 x6] 28)).cell? ⟨w1.heap.size, 1, none⟩ = some (.int .u16 x2) ∧ (w2.alloc (.cells #[.int .u16 x0, .int .u16 x2, .int .u16 x4, .int .u16 x6] 28)).cell? ⟨w1.heap.size, 2, none⟩ = some (.int .u16 x4) ∧ (w2.alloc (.cells #[.int .u16 x0, .int .u16 x2, .int .u16 x4, .int .u16 x6] 28)).cell? ⟨w1.heap.size, 3, none⟩ = some (.int .u16 x6) ∧ (w2.alloc (.cells #[.int .u16 x0, .int .u16 x2, .int .u16 x4, .int .u16 x6] 28)).cell? ⟨w2.heap.size, 0, none⟩ = some (.int .u16 x0) ∧ (w2.alloc (.cells #[.int .u16 x0, .int .u16 x2, .int .u16 x4, .int .u16 x6] 28)).cell? ⟨w2.heap.size, 1, none⟩ = some (.int .u16 x2) ∧ (w2.alloc (.cells #[.int .u16 x0, .int .u16 x2, .int .u16 x4, .int .u16 x6] 28)).cell? ⟨w2.heap.size, 2, none⟩ = some (.int .u16 x4) ∧ (w2.alloc (.cells #[.int .u16 x0, .int .u16 x2, .int .u16 x4, .int .u16 x6] 28)).cell? ⟨w2.heap.size, 3, none⟩ = some (.int .u16 x6) ∧ True) := ⟨(by first | exact b2 | exact (bstep b2 (fresh_below _ _)) | exact (bstep (bstep b2 (fresh_below _ _)) (fresh_below _ _)) | exact (bstep (bstep (bstep b2 (fresh_below _ _)) (fresh_below _ _)) (fresh_below _ _)) | exact (bstep (bstep (bstep (bstep b2 (fresh_below _ _)) (fresh_below _ _)) (fresh_below _ _)) (fresh_below _ _)) | exact (bstep (bstep (bstep (bstep (bstep b2 (fresh_below _ _)) (fresh_below _ _)) (fresh_below _ _)) (fresh_below _ _)) (fresh_below _ _))), d0.at_ 0, d0.at_ 1, d0.at_ 2, d0.at_ 3, d1.at_ 0, d1.at_ 1, d1.at_ 2, d1.at_ 3, d2.at_ 0, d2.at_ 1, d2.at_ 2, d2.at_ 3, trivial⟩
        go_region_held3 (fun w' => (Below w.heap.size w w' ∧ w'.cell? ⟨w.heap.size, 0, none⟩ = some (.int .u16 a) ∧ w'.cell? ⟨w.heap.size, 1, none⟩ = some (.int .u16 b) ∧ w'.cell? ⟨w.heap.size, 2, none⟩ = some (.int .u16 c) ∧ w'.cell? ⟨w.heap.size, 3, none⟩ = some (.int .u16 d) ∧ w'.cell? ⟨w1.heap.size, 0, none⟩ = some (.int .u16 x0) ∧ w'.cell? ⟨w1.heap.size, 1, none⟩ = some (.int .u16 x2) ∧ w'.cell? ⟨w1.heap.size, 2, none⟩ = some (.int .u16 x4) ∧ w'.cell? ⟨w1.heap.size, 3, none⟩ = some (.int .u16 x6) ∧ w'.cell? ⟨w2.heap.size, 0, none⟩ = some (.int .u16 x0) ∧ w'.cell? ⟨w2.heap.size, 1, none⟩ = some (.int .u16 x2) ∧ w'.cell? ⟨w2.heap.size, 2, none⟩ = some (.int .u16 x4) ∧ w'.cell? ⟨w2.heap.size, 3, none⟩ = some (.int .u16 x6) ∧ True)) (first | assumption | exact SK.out _ _ hS0 (Below.refl _ _).drew | exact SK.out _ _ (by assumption) (fresh_below _ _) | (refine SK.out _ _ ?_ (by assumption); assumption))
          (first | (go_at_call 11; (with_reducible refine (CP.out _).mono ?_); rintro e wq ⟨rfl, bq⟩) | (go_at_call 12; (with_reducible refine (CQ.out _).mono ?_); rintro e wq ⟨rfl, bq⟩) | (go_at_call 8; (with_reducible refine (sent _).mono ?_); rintro e wq ⟨rfl, bq⟩))
        go_wp2
        go_ret
        exact ⟨rfl, (by first | exact FS.out _ (by assumption) | exact bstep (FS.out _ (by assumption)) (fresh_below _ _))⟩
      · have h0 : udpIs s = false := by simpa using h
        have c1 := fun w => udp_Parse_no s w (reach_max hs) h0
        have c2 := fun w => r5_Parse_no s w (reach_max hs) h0
        unfold udpNone at c1 c2
        have C1 := hide c1; have C2 := hide c2
        clear c1 c2 h h0
        go_enter Try.func3, Try.ntmps3
        have d0 := Cells.new w #[.int .u16 a, .int .u16 b, .int .u16 c, .int .u16 d] 24
        go_wp2_with fail
        refine (C1.out _).mono ?_
        rintro e w1 ⟨rfl, b1⟩
        replace d0 := Cells.below b1 d0
        replace b1 : Below w.heap.size w w1 := by first | exact bstep (Below.refl w.heap.size w) b1 | exact bstep (bstep (Below.refl w.heap.size w) (fresh_below _ _)) b1 | exact bstep (bstep (bstep (Below.refl w.heap.size w) (fresh_below _ _)) (fresh_below _ _)) b1 | exact bstep (bstep (bstep (bstep (Below.refl w.heap.size w) (fresh_below _ _)) (fresh_below _ _)) (fresh_below _ _)) b1 | exact bstep (bstep (bstep (bstep (bstep (Below.refl w.heap.size w) (fresh_below _ _)) (fresh_below _ _)) (fresh_below _ _)) (fresh_below _ _)) b1 | exact bstep (bstep (bstep (bstep (bstep (bstep (Below.refl w.heap.size w) (fresh_below _ _)) (fresh_below _ _)) (fresh_below _ _)) (fresh_below _ _)) (fresh_below _ _)) b1
        replace d0 := Cells.below (fresh_below w1 (.cells #[.int .u16 0, .int .u16 0, .int .u16 0, .int .u16 0] 24)) d0
        have d1 := Cells.new w1 #[.int .u16 0, .int .u16 0, .int .u16 0, .int .u16 0] 24
        go_wp2_with fail
        refine (C2.out _).mono ?_
        rintro e w2 ⟨rfl, b2⟩
        replace d0 := Cells.below b2 d0
        replace d1 := Cells.below b2 d1
        replace b2 : Below w.heap.size w w2 := by first | exact bstep b1 b2 | exact bstep (bstep b1 (fresh_below _ _)) b2 | exact bstep (bstep (bstep b1 (fresh_below _ _)) (fresh_below _ _)) b2 | exact bstep (bstep (bstep (bstep b1 (fresh_below _ _)) (fresh_below _ _)) (fresh_below _ _)) b2 | exact bstep (bstep (bstep (bstep (bstep b1 (fresh_below _ _)) (fresh_below _ _)) (fresh_below _ _)) (fresh_below _ _)) b2 | exact bstep (bstep (bstep (bstep (bstep (bstep b1 (fresh_below _ _)) (fresh_below _ _)) (fresh_below _ _)) (fresh_below _ _)) (fresh_below _ _)) b2
        replace d0 := Cells.below (fresh_below w2 (.cells #[.int .u16 0, .int .u16 0, .int .u16 0, .int .u16 0] 28)) d0
        replace d1 := Cells.below (fresh_below w2 (.cells #[.int .u16 0, .int .u16 0, .int .u16 0, .int .u16 0] 28)) d1
        have d2 := Cells.new w2 #[.int .u16 0, .int .u16 0, .int .u16 0, .int .u16 0] 28
        go_wp2_with fail
        have SK := hide (fun (zX zY : World) (zh : (Below w.heap.size w zX ∧ zX.cell? ⟨w.heap.size, 0, none⟩ = some (.int .u16 a) ∧ zX.cell? ⟨w.heap.size, 1, none⟩ = some (.int .u16 b) ∧ zX.cell? ⟨w.heap.size, 2, none⟩ = some (.int .u16 c) ∧ zX.cell? ⟨w.heap.size, 3, none⟩ = some (.int .u16 d) ∧ zX.cell? ⟨w1.heap.size, 0, none⟩ = some (.int .u16 0) ∧ zX.cell? ⟨w1.heap.size, 1, none⟩ = some (.int .u16 0) ∧ zX.cell? ⟨w1.heap.size, 2, none⟩ = some (.int .u16 0) ∧ zX.cell? ⟨w1.heap.size, 3, none⟩ = some (.int .u16 0) ∧ zX.cell? ⟨w2.heap.size, 0, none⟩ = some (.int .u16 0) ∧ zX.cell? ⟨w2.heap.size, 1, none⟩ = some (.int .u16 0) ∧ zX.cell? ⟨w2.heap.size, 2, none⟩ = some (.int .u16 0) ∧ zX.cell? ⟨w2.heap.size, 3, none⟩ = some (.int .u16 0) ∧ True)) (zb : Below zX.heap.size zX zY) => (show (Below w.heap.size w zY ∧ zY.cell? ⟨w.heap.size, 0, none⟩ = some (.int .u16 a) ∧ zY.cell? ⟨w.heap.size, 1, none⟩ = some (.int .u16 b) ∧ zY.cell? ⟨w.heap.size, 2, none⟩ = some (.int .u16 c) ∧ zY.cell? ⟨w.heap.size, 3, none⟩ = some (.int .u16 d) ∧ zY.cell? ⟨w1.heap.size, 0, none⟩ = some (.int .u16 0) ∧ zY.cell? ⟨w1.heap.size, 1, none⟩ = some (.int .u16 0) ∧ zY.cell? ⟨w1.heap.size, 2, none⟩ = some (.int .u16 0) ∧ zY.cell? ⟨w1.heap.size, 3, none⟩ = some (.int .u16 0) ∧ zY.cell? ⟨w2.heap.size, 0, none⟩ = some (.int .u16 0) ∧ zY.cell? ⟨w2.heap.size, 1, none⟩ = some (.int .u16 0) ∧ zY.cell? ⟨w2.heap.size, 2, none⟩ = some (.int .u16 0) ∧ zY.cell? ⟨w2.heap.size, 3, none⟩ = some (.int .u16 0) ∧ True) from ⟨bstep zh.1 zb, cellAt zb zh.2.1, cellAt zb zh.2.2.1, cellAt zb zh.2.2.2.1, cellAt zb zh.2.2.2.2.1, cellAt zb zh.2.2.2.2.2.1, cellAt zb zh.2.2.2.2.2.2.1, cellAt zb zh.2.2.2.2.2.2.2.1, cellAt zb zh.2.2.2.2.2.2.2.2.1, cellAt zb zh.2.2.2.2.2.2.2.2.2.1, cellAt zb zh.2.2.2.2.2.2.2.2.2.2.1, cellAt zb zh.2.2.2.2.2.2.2.2.2.2.2.1, cellAt zb zh.2.2.2.2.2.2.2.2.2.2.2.2.1, trivial⟩))
        have FS := hide (fun (zX : World) (zh : (Below w.heap.size w zX ∧ zX.cell? ⟨w.heap.size, 0, none⟩ = some (.int .u16 a) ∧ zX.cell? ⟨w.heap.size, 1, none⟩ = some (.int .u16 b) ∧ zX.cell? ⟨w.heap.size, 2, none⟩ = some (.int .u16 c) ∧ zX.cell? ⟨w.heap.size, 3, none⟩ = some (.int .u16 d) ∧ zX.cell? ⟨w1.heap.size, 0, none⟩ = some (.int .u16 0) ∧ zX.cell? ⟨w1.heap.size, 1, none⟩ = some (.int .u16 0) ∧ zX.cell? ⟨w1.heap.size, 2, none⟩ = some (.int .u16 0) ∧ zX.cell? ⟨w1.heap.size, 3, none⟩ = some (.int .u16 0) ∧ zX.cell? ⟨w2.heap.size, 0, none⟩ = some (.int .u16 0) ∧ zX.cell? ⟨w2.heap.size, 1, none⟩ = some (.int .u16 0) ∧ zX.cell? ⟨w2.heap.size, 2, none⟩ = some (.int .u16 0) ∧ zX.cell? ⟨w2.heap.size, 3, none⟩ = some (.int .u16 0) ∧ True)) => zh.1)
        have hS0 : (Below w.heap.size w (w2.alloc (.cells #[.int .u16 0, .int .u16 0, .int .u16 0, .int .u16 0] 28)) ∧ (w2.alloc (.cells #[.int .u16 0, .int .u16 0, .int .u16 0, .int .u16 0] 28)).cell? ⟨w.heap.size, 0, none⟩ = some (.int .u16 a) ∧ (w2.alloc (.cells #[.int .u16 0, .int .u16 0, .int .u16 0, .int .u16 0] 28)).cell? ⟨w.heap.size, 1, none⟩ = some (.int .u16 b) ∧ (w2.alloc (.cells #[.int .u16 0, .int .u16 0, .int .u16 0, .int .u16 0] 28)).cell? ⟨w.heap.size, 2, none⟩ = some (.int .u16 c) ∧ (w2.alloc (.cells #[.int .u16 0, .int .u16 0, .int .u16 0, .int .u16 0] 28)).cell? ⟨w.heap.size, 3, none⟩ = some (.int .u16 d) ∧ (w2.alloc (.cells #[.int .u16 0, .int .u16 0, .int .u16 0, .int .u16 0] 28)).cell? ⟨w1.heap.size, 0, none⟩ = some (.int .u16 0) ∧ (w2.alloc (.cells #[.int .u16 0, .int .u16 0, .int .u16 0, .int .u16 0] 28)).cell? ⟨w1.heap.size, 1, none⟩ = some (.int .u16 0) ∧ (w2.alloc (.cells #[.int .u16 0, .int .u16 0, .int .u16 0, .int .u16 0] 28)).cell? ⟨w1.heap.size, 2, none⟩ = some (.int .u16 0) ∧ (w2.alloc (.cells #[.int .u16 0, .int .u16 0, .int .u16 0, .int .u16 0] 28)).cell? ⟨w1.heap.size, 3, none⟩ = some (.int .u16 0) ∧ (w2.alloc (.cells #[.int .u16 0, .int .u16 0, .int .u16 0, .int .u16 0] 28)).cell? ⟨w2.heap.size, 0, none⟩ = some (.int .u16 0) ∧ (w2.alloc (.cells #[.int .u16 0, .int .u16 0, .int .u16 0, .int .u16 0] 28)).cell? ⟨w2.heap.size, 1, none⟩ = some (.int .u16 0) ∧ (w2.alloc (.cells #[.int .u16 0, .int .u16 0, .int .u16 0, .int .u16 0] 28)).cell? ⟨w2.heap.size, 2, none⟩ = some (.int .u16 0) ∧ (w2.alloc (.cells #[.int .u16 0, .int .u16 0, .int .u16 0, .int .u16 0] 28)).cell? ⟨w2.heap.size, 3, none⟩ = some (.int .u16 0) ∧ True) := ⟨(by first | exact b2 | exact (bstep b2 (fresh_below _ _)) | exact (bstep (bstep b2 (fresh_below _ _)) (fresh_below _ _)) | exact (bstep (bstep (bstep b2 (fresh_below _ _)) (fresh_below _ _)) (fresh_below _ _)) | exact (bstep (bstep (bstep (bstep b2 (fresh_below _ _)) (fresh_below _ _)) (fresh_below _ _)) (fresh_below _ _)) | exact (bstep (bstep (bstep (bstep (bstep b2 (fresh_below _ _)) (fresh_below _ _)) (fresh_below _ _)) (fresh_below _ _)) (fresh_below _ _))), d0.at_ 0, d0.at_ 1, d0.at_ 2, d0.at_ 3, d1.at_ 0, d1.at_ 1, d1.at_ 2, d1.at_ 3, d2.at_ 0, d2.at_ 1, d2.at_ 2, d2.at_ 3, trivial⟩
        go_region_held3 (fun w' => (Below w.heap.size w w' ∧ w'.cell? ⟨w.heap.size, 0, none⟩ = some (.int .u16 a) ∧ w'.cell? ⟨w.heap.size, 1, none⟩ = some (.int .u16 b) ∧ w'.cell? ⟨w.heap.size, 2, none⟩ = some (.int .u16 c) ∧ w'.cell? ⟨w.heap.size, 3, none⟩ = some (.int .u16 d) ∧ w'.cell? ⟨w1.heap.size, 0, none⟩ = some (.int .u16 0) ∧ w'.cell? ⟨w1.heap.size, 1, none⟩ = some (.int .u16 0) ∧ w'.cell? ⟨w1.heap.size, 2, none⟩ = some (.int .u16 0) ∧ w'.cell? ⟨w1.heap.size, 3, none⟩ = some (.int .u16 0) ∧ w'.cell? ⟨w2.heap.size, 0, none⟩ = some (.int .u16 0) ∧ w'.cell? ⟨w2.heap.size, 1, none⟩ = some (.int .u16 0) ∧ w'.cell? ⟨w2.heap.size, 2, none⟩ = some (.int .u16 0) ∧ w'.cell? ⟨w2.heap.size, 3, none⟩ = some (.int .u16 0) ∧ True)) (first | assumption | exact SK.out _ _ hS0 (Below.refl _ _).drew | exact SK.out _ _ (by assumption) (fresh_below _ _) | (refine SK.out _ _ ?_ (by assumption); assumption))
          (first | (go_at_call 11; (with_reducible refine (CP.out _).mono ?_); rintro e wq ⟨rfl, bq⟩) | (go_at_call 12; (with_reducible refine (CQ.out _).mono ?_); rintro e wq ⟨rfl, bq⟩) | (go_at_call 8; (with_reducible refine (sent _).mono ?_); rintro e wq ⟨rfl, bq⟩))
        go_wp2
        go_ret
        exact ⟨rfl, (by first | exact FS.out _ (by assumption) | exact bstep (FS.out _ (by assumption)) (fresh_below _ _))⟩

set_option maxHeartbeats 2000000 in
theorem UdpSums_walk (a b : Int) (s : ByteArray) (w : World) (ha : 0 ≤ a ∧ a ≤ 4294967295) (hb : 0 ≤ b ∧ b ≤ 4294967295) (hs : s.size ≤ 140737488351232) :
    Calls Try.prog 4 #[.int .u32 a, .int .u32 b, .string s] w (Ret (.bool true) w) := by
  by_cases g1 : 600 < s.size
  · go_enter Try.func4, Try.ntmps4
    go_wp2_with fail
    refine (sent _).mono ?_
    rintro e w1 ⟨rfl, b1⟩
    replace b1 : Below w.heap.size w w1 := by first | exact bstep (Below.refl w.heap.size w) b1 | exact bstep (bstep (Below.refl w.heap.size w) (fresh_below _ _)) b1 | exact bstep (bstep (bstep (Below.refl w.heap.size w) (fresh_below _ _)) (fresh_below _ _)) b1 | exact bstep (bstep (bstep (bstep (Below.refl w.heap.size w) (fresh_below _ _)) (fresh_below _ _)) (fresh_below _ _)) b1 | exact bstep (bstep (bstep (bstep (bstep (Below.refl w.heap.size w) (fresh_below _ _)) (fresh_below _ _)) (fresh_below _ _)) (fresh_below _ _)) b1 | exact bstep (bstep (bstep (bstep (bstep (bstep (Below.refl w.heap.size w) (fresh_below _ _)) (fresh_below _ _)) (fresh_below _ _)) (fresh_below _ _)) (fresh_below _ _)) b1
    go_wp2_with fail
    go_ret
    exact ⟨rfl, (by first | exact b1 | exact (bstep b1 (fresh_below _ _)) | exact (bstep (bstep b1 (fresh_below _ _)) (fresh_below _ _)) | exact (bstep (bstep (bstep b1 (fresh_below _ _)) (fresh_below _ _)) (fresh_below _ _)) | exact (bstep (bstep (bstep (bstep b1 (fresh_below _ _)) (fresh_below _ _)) (fresh_below _ _)) (fresh_below _ _)) | exact (bstep (bstep (bstep (bstep (bstep b1 (fresh_below _ _)) (fresh_below _ _)) (fresh_below _ _)) (fresh_below _ _)) (fresh_below _ _)))⟩
  · have c1 := fun w => udp_Check a b s w ha hb hs
    have c2 := fun w => r5_Check a b s w ha hb hs
    have c3 := fun w => udp_Seal a b s w ha hb hs
    have c4 := fun w => r5_Seal a b s w ha hb hs
    obtain ⟨x, hx⟩ : ∃ x, x = udpOk a b s := ⟨_, rfl⟩
    obtain ⟨t, ht⟩ : ∃ t, t = S (udpSeal a b (L s)) := ⟨_, rfl⟩
    rw [← hx] at c1 c2
    rw [← ht] at c3 c4
    have C1 := hide c1; have C2 := hide c2; have C3 := hide c3; have C4 := hide c4
    clear c1 c2 c3 c4 hx ht
    have q1 : (x == x) = true := by simp
    go_enter Try.func4, Try.ntmps4
    go_wp2_with fail
    refine (C1.out _).mono ?_
    rintro e w1 ⟨rfl, b1⟩
    replace b1 : Below w.heap.size w w1 := by first | exact bstep (Below.refl w.heap.size w) b1 | exact bstep (bstep (Below.refl w.heap.size w) (fresh_below _ _)) b1 | exact bstep (bstep (bstep (Below.refl w.heap.size w) (fresh_below _ _)) (fresh_below _ _)) b1 | exact bstep (bstep (bstep (bstep (Below.refl w.heap.size w) (fresh_below _ _)) (fresh_below _ _)) (fresh_below _ _)) b1 | exact bstep (bstep (bstep (bstep (bstep (Below.refl w.heap.size w) (fresh_below _ _)) (fresh_below _ _)) (fresh_below _ _)) (fresh_below _ _)) b1 | exact bstep (bstep (bstep (bstep (bstep (bstep (Below.refl w.heap.size w) (fresh_below _ _)) (fresh_below _ _)) (fresh_below _ _)) (fresh_below _ _)) (fresh_below _ _)) b1
    go_wp2_with fail
    refine (C2.out _).mono ?_
    rintro e w2 ⟨rfl, b2⟩
    replace b2 : Below w.heap.size w w2 := by first | exact bstep b1 b2 | exact bstep (bstep b1 (fresh_below _ _)) b2 | exact bstep (bstep (bstep b1 (fresh_below _ _)) (fresh_below _ _)) b2 | exact bstep (bstep (bstep (bstep b1 (fresh_below _ _)) (fresh_below _ _)) (fresh_below _ _)) b2 | exact bstep (bstep (bstep (bstep (bstep b1 (fresh_below _ _)) (fresh_below _ _)) (fresh_below _ _)) (fresh_below _ _)) b2 | exact bstep (bstep (bstep (bstep (bstep (bstep b1 (fresh_below _ _)) (fresh_below _ _)) (fresh_below _ _)) (fresh_below _ _)) (fresh_below _ _)) b2
    go_wp2_with fail
    refine (C3.out _).mono ?_
    rintro e w3 ⟨rfl, b3⟩
    replace b3 : Below w.heap.size w w3 := by first | exact bstep b2 b3 | exact bstep (bstep b2 (fresh_below _ _)) b3 | exact bstep (bstep (bstep b2 (fresh_below _ _)) (fresh_below _ _)) b3 | exact bstep (bstep (bstep (bstep b2 (fresh_below _ _)) (fresh_below _ _)) (fresh_below _ _)) b3 | exact bstep (bstep (bstep (bstep (bstep b2 (fresh_below _ _)) (fresh_below _ _)) (fresh_below _ _)) (fresh_below _ _)) b3 | exact bstep (bstep (bstep (bstep (bstep (bstep b2 (fresh_below _ _)) (fresh_below _ _)) (fresh_below _ _)) (fresh_below _ _)) (fresh_below _ _)) b3
    go_wp2_with fail
    refine (C4.out _).mono ?_
    rintro e w4 ⟨rfl, b4⟩
    replace b4 : Below w.heap.size w w4 := by first | exact bstep b3 b4 | exact bstep (bstep b3 (fresh_below _ _)) b4 | exact bstep (bstep (bstep b3 (fresh_below _ _)) (fresh_below _ _)) b4 | exact bstep (bstep (bstep (bstep b3 (fresh_below _ _)) (fresh_below _ _)) (fresh_below _ _)) b4 | exact bstep (bstep (bstep (bstep (bstep b3 (fresh_below _ _)) (fresh_below _ _)) (fresh_below _ _)) (fresh_below _ _)) b4 | exact bstep (bstep (bstep (bstep (bstep (bstep b3 (fresh_below _ _)) (fresh_below _ _)) (fresh_below _ _)) (fresh_below _ _)) (fresh_below _ _)) b4
    go_wp2_with fail
    refine (sent _).mono ?_
    rintro e w5 ⟨rfl, b5⟩
    replace b5 : Below w.heap.size w w5 := by first | exact bstep b4 b5 | exact bstep (bstep b4 (fresh_below _ _)) b5 | exact bstep (bstep (bstep b4 (fresh_below _ _)) (fresh_below _ _)) b5 | exact bstep (bstep (bstep (bstep b4 (fresh_below _ _)) (fresh_below _ _)) (fresh_below _ _)) b5 | exact bstep (bstep (bstep (bstep (bstep b4 (fresh_below _ _)) (fresh_below _ _)) (fresh_below _ _)) (fresh_below _ _)) b5 | exact bstep (bstep (bstep (bstep (bstep (bstep b4 (fresh_below _ _)) (fresh_below _ _)) (fresh_below _ _)) (fresh_below _ _)) (fresh_below _ _)) b5
    go_wp2_with fail
    go_ret
    exact ⟨rfl, (by first | exact b5 | exact (bstep b5 (fresh_below _ _)) | exact (bstep (bstep b5 (fresh_below _ _)) (fresh_below _ _)) | exact (bstep (bstep (bstep b5 (fresh_below _ _)) (fresh_below _ _)) (fresh_below _ _)) | exact (bstep (bstep (bstep (bstep b5 (fresh_below _ _)) (fresh_below _ _)) (fresh_below _ _)) (fresh_below _ _)) | exact (bstep (bstep (bstep (bstep (bstep b5 (fresh_below _ _)) (fresh_below _ _)) (fresh_below _ _)) (fresh_below _ _)) (fresh_below _ _)))⟩
end Go.Proofs.Ythmedjlecikbiaa
