/- Several texts of this claim, one behind the other. -/
import Derived.Test.YtilfcikhipadpaaGreatDoorK26

section
/- What a packet carries is looked at: UDP, ICMP; and the look. -/
set_option linter.unusedVariables false
set_option linter.unusedSimpArgs false
namespace Go.Proofs.YtilfcikhipadpaaGreatDoor
open Go.RowKit
attribute [local go_sem] Oper.semAt_some

set_option maxRecDepth 100000 in
set_option maxHeartbeats 2000000 in
theorem p_datagram_no (B : Nat) (h : Hd) (l : ByteArray) (x : Seen) (w : World) (hC : Pk w B h l (seen0 h)) (hl : l.size ≤ 140737488351232) (h6 : udpIs l = false) :
    Calls Tryz.prog 127 #[.pointer (some ⟨B, 0, none⟩)] w (Looked B h l 7 x w) := by
  have c1 := fun W => udp_Parse_no l W (reach_max hl) h6
  unfold udpNone at c1
  have p8 : w.cell? ⟨B, 8, none⟩ = some (.string l) := hC.at_ 8
  have C1 := hide c1
  clear c1 hC
  go_enter Tryz.func127, Tryz.ntmps127
  go_wp2_with fail
  (with_reducible refine (C1.out _).mono ?_)
  rintro e w1 ⟨rfl, b1⟩
  go_wp2_with fail
  go_ret
  exact ⟨rfl, (But.of_below b1).step (fresh_below _ _), fun e => absurd e (by decide)⟩
set_option maxRecDepth 100000 in
set_option maxHeartbeats 2000000 in
theorem p_datagram_yes (B : Nat) (h : Hd) (l : ByteArray) (g0 g1 g2 g3 : Int) (r : ByteArray) (w : World) (hC : Pk w B h l (seen0 h)) (hp : h.p = 17)
    (c1 : ∀ W, Calls Tryz.prog 181 #[.string l] W (Ret (.tuple #[.agg #[.int .u16 g0, .int .u16 g1, .int .u16 g2, .int .u16 g3], .string r, .bool true]) W)) :
    Calls Tryz.prog 127 #[.pointer (some ⟨B, 0, none⟩)] w (Looked B h l 0 ⟨⟨17, h.s, g0, h.d, g1⟩, 2, 0, false, h.l⟩ w) := by
  have p8 : w.cell? ⟨B, 8, none⟩ = some (.string l) := hC.at_ 8
  have C1 := hide c1; have HC := hide hC
  clear c1 hC
  go_enter Tryz.func127, Tryz.ntmps127
  go_wp2_with fail
  (with_reducible refine (C1.out _).mono ?_)
  rintro e w1 ⟨rfl, b1⟩
  have d1 := Cells.new w1 #[.int .u16 g0, .int .u16 g1, .int .u16 g2, .int .u16 g3] 282
  have hP : Pk (w1.alloc (.cells #[.int .u16 g0, .int .u16 g1, .int .u16 g2, .int .u16 g3] 282)) B h l (seen0 h) := Cells.alloc (Cells.below b1 HC.out) _
  have hB : But B w (w1.alloc (.cells #[.int .u16 g0, .int .u16 g1, .int .u16 g2, .int .u16 g3] 282)) := (But.of_below b1).step (fresh_below _ _)
  have C2 := hide (fun a b => p_between B h l (seen0 h) a b _ hP)
  obtain ⟨xd1_0, xd1_1, xd1_2, xd1_3⟩ := d1.x4
  clear p8 hP d1 b1
  have HB := hide hB
  clear hB
  go_wp2_with fail
  (with_reducible refine (C2.out _ _).mono ?_)
  rintro e w2 ⟨rfl, b2, hP⟩
  have hB2 := HB.out.trans b2
  unfold seen0 at hP
  rw [hp] at hP
  have HP := hide hP; have HB2 := hide hB2
  clear hP hB2 b2 HB xd1_0 xd1_1 xd1_2 xd1_3
  go_wp2_with fail
  go_ret
  exact ⟨rfl, HB2.out, fun _ => HP.out⟩
theorem p_datagram (B : Nat) (h : Hd) (l : ByteArray) (w : World) (hC : Pk w B h l (seen0 h)) (hl : l.size ≤ 140737488351232) (hp : h.p = 17) :
    Calls Tryz.prog 127 #[.pointer (some ⟨B, 0, none⟩)] w (Looked B h l (loadWhy 17 l) (loadSeen h l) w) := by
  unfold loadWhy loadSeen
  rw [if_neg (show ¬ (17 : Int) = 6 by decide), if_pos (show (17 : Int) = 17 from rfl), if_neg (show ¬ h.p = 6 by omega), if_pos hp]
  by_cases h6 : udpIs l = true
  · rw [if_pos h6]
    exact p_datagram_yes B h l _ _ _ _ _ w hC hp (fun W => udp_Parse_yes l W (reach_max hl) h6)
  · rw [if_neg h6]
    exact p_datagram_no B h l _ w hC hl (by simpa using h6)

set_option maxRecDepth 100000 in
set_option maxHeartbeats 2000000 in
theorem p_message_no (B : Nat) (h : Hd) (l : ByteArray) (x : Seen) (w : World) (hC : Pk w B h l (seen0 h)) (h8 : l.size < 8) :
    Calls Tryz.prog 128 #[.pointer (some ⟨B, 0, none⟩)] w (Looked B h l 7 x w) := by
  have c1 := fun W => i_Parse_no l W h8
  have p8 : w.cell? ⟨B, 8, none⟩ = some (.string l) := hC.at_ 8
  have C1 := hide c1
  clear c1 hC
  go_enter Tryz.func128, Tryz.ntmps128
  go_wp2_with fail
  (with_reducible refine (C1.out _).mono ?_)
  rintro e w1 ⟨rfl, b1⟩
  go_wp2_with fail
  go_ret
  exact ⟨rfl, (But.of_below b1).step (fresh_below _ _), fun e => absurd e (by decide)⟩

set_option maxRecDepth 100000 in
set_option maxHeartbeats 2000000 in
theorem p_message_ask (B : Nat) (h : Hd) (l : ByteArray) (m0 m1 m2 : Int) (m3 m4 : ByteArray) (id : Int) (qi : Bool) (w0 w : World) (K0 : Kinds w0) (hb : Below w0.heap.size w0 w) (hn : w0.heap.size ≤ B) (hC : Pk w B h l (seen0 h)) (hp : h.p = 1)
    (c1 : ∀ W, Calls Tryz.prog 136 #[.string l] W (Ret (.tuple #[.agg #[.int .u8 m0, .int .u8 m1, .int .u16 m2, .string m3, .string m4], .bool true]) W))
    (c2 : ∀ W, Kinds W → Calls Tryz.prog 182 #[.agg #[.int .u8 m0, .int .u8 m1, .int .u16 m2, .string m3, .string m4]] W (Ret (.tuple #[.bool true, .bool qi]) W))
    (c3 : ∀ W, Calls Tryz.prog 183 #[.agg #[.int .u8 m0, .int .u8 m1, .int .u16 m2, .string m3, .string m4]] W (Ret (.int .u16 id) W)) :
    Calls Tryz.prog 128 #[.pointer (some ⟨B, 0, none⟩)] w (Looked B h l 0 ⟨⟨1, h.s, id, h.d, 0⟩, 2, 0, true, h.l⟩ w) := by
  have p8 : w.cell? ⟨B, 8, none⟩ = some (.string l) := hC.at_ 8
  have hlt := hC.lt
  have KK : ∀ W, But B w W → Kinds W := fun W hW => K0.below (hb.trans (hW.below hn (Nat.le_of_lt hlt)))
  have C1 := hide c1; have C2 := hide c2; have HC := hide hC; have HK := hide KK; have HL := hide hlt
  clear c1 c2 hC KK hlt K0 hb hn
  have C3 := hide c3
  clear c3
  go_enter Tryz.func128, Tryz.ntmps128
  go_wp2_with fail
  (with_reducible refine (C1.out _).mono ?_)
  rintro e w1 ⟨rfl, b1⟩
  have hne : w1.heap.size ≠ B := by have := HL.out; have := b1.size; omega
  have d1 := Cells.new w1 #[.int .u8 m0, .int .u8 m1, .int .u16 m2, .string m3, .string m4] 166
  have hP : Pk (w1.alloc (.cells #[.int .u8 m0, .int .u8 m1, .int .u16 m2, .string m3, .string m4] 166)) B h l (seen0 h) := Cells.alloc (Cells.below b1 HC.out) _
  have hB : But B w (w1.alloc (.cells #[.int .u8 m0, .int .u8 m1, .int .u16 m2, .string m3, .string m4] 166)) := (But.of_below b1).step (fresh_below _ _)
  obtain ⟨xd1_0, xd1_1, xd1_2, xd1_3, xd1_4⟩ := d1.x5
  have HB := hide hB; have HD := hide d1; have HP := hide hP
  clear hB d1 b1 p8 hP
  go_wp2_with fail
  (with_reducible refine (C2.out _ (HK.out _ HB.out)).mono ?_)
  rintro e w2 ⟨rfl, b2⟩
  have d2 := Cells.below b2 HD.out
  have hP2 : Pk w2 B h l (seen0 h) := Cells.below b2 HP.out
  have hB2 := HB.out.step b2
  clear xd1_0 xd1_1 xd1_2 xd1_3 xd1_4 HB HD HP
  unfold Pk pkCells seen0 at hP2
  simp only at hP2
  have n16 : w2.cell? ⟨B, 16, none⟩ = some (.bool false) := hP2.at_ 16
  have f16 := hP2.free 16
  have hP3 : Pk (w2.setCell ⟨B, 16, none⟩ (.bool true)) B h l ⟨⟨0, 0, 0, 0, 0⟩, 2, 0, true, h.l⟩ := hP2.set_ 16 (.bool true)
  have d3 := d2.other hne 16 (.bool true)
  have hB3 := hB2.set 16 (.bool true)
  obtain ⟨xd3_0, xd3_1, xd3_2, xd3_3, xd3_4⟩ := d3.x5
  have HB := hide hB3; have HD := hide d3; have HP := hide hP3
  clear hB2 hB3 d2 d3 hP2 hP3 b2
  go_wp2_with fail
  (with_reducible refine (C3.out _).mono ?_)
  rintro e w3 ⟨rfl, b3⟩
  have hP4 : Pk w3 B h l ⟨⟨0, 0, 0, 0, 0⟩, 2, 0, true, h.l⟩ := Cells.below b3 HP.out
  have hB4 := HB.out.step b3
  have C4 := hide (fun a b => p_between B h l _ a b _ hP4)
  have HB4 := hide hB4
  clear hP4 hB4 b3 HB HP HD xd3_0 xd3_1 xd3_2 xd3_3 xd3_4 n16 f16
  go_wp2_with fail
  (with_reducible refine (C4.out _ _).mono ?_)
  rintro e w4 ⟨rfl, b4, hP⟩
  have hB5 := HB4.out.trans b4
  rw [hp] at hP
  have HP := hide hP; have HB5 := hide hB5
  clear hP hB5 b4 HB4
  go_wp2_with fail
  go_ret
  exact ⟨rfl, HB5.out, fun _ => HP.out⟩

set_option maxRecDepth 100000 in
set_option maxHeartbeats 2000000 in
theorem p_message_told (B : Nat) (h : Hd) (l : ByteArray) (m0 m1 m2 : Int) (m3 m4 : ByteArray) (id : Int) (w0 w : World) (K0 : Kinds w0) (hb : Below w0.heap.size w0 w) (hn : w0.heap.size ≤ B) (hC : Pk w B h l (seen0 h)) (hp : h.p = 1)
    (c1 : ∀ W, Calls Tryz.prog 136 #[.string l] W (Ret (.tuple #[.agg #[.int .u8 m0, .int .u8 m1, .int .u16 m2, .string m3, .string m4], .bool true]) W))
    (c2 : ∀ W, Kinds W → Calls Tryz.prog 182 #[.agg #[.int .u8 m0, .int .u8 m1, .int .u16 m2, .string m3, .string m4]] W (Ret (.tuple #[.bool false, .bool true]) W))
    (c3 : ∀ W, Calls Tryz.prog 183 #[.agg #[.int .u8 m0, .int .u8 m1, .int .u16 m2, .string m3, .string m4]] W (Ret (.int .u16 id) W)) :
    Calls Tryz.prog 128 #[.pointer (some ⟨B, 0, none⟩)] w (Looked B h l 0 ⟨⟨1, h.s, 0, h.d, id⟩, 2, 0, false, h.l⟩ w) := by
  have p8 : w.cell? ⟨B, 8, none⟩ = some (.string l) := hC.at_ 8
  have hlt := hC.lt
  have KK : ∀ W, But B w W → Kinds W := fun W hW => K0.below (hb.trans (hW.below hn (Nat.le_of_lt hlt)))
  have C1 := hide c1; have C2 := hide c2; have HC := hide hC; have HK := hide KK; have HL := hide hlt
  clear c1 c2 hC KK hlt K0 hb hn
  have C3 := hide c3
  clear c3
  go_enter Tryz.func128, Tryz.ntmps128
  go_wp2_with fail
  (with_reducible refine (C1.out _).mono ?_)
  rintro e w1 ⟨rfl, b1⟩
  have hne : w1.heap.size ≠ B := by have := HL.out; have := b1.size; omega
  have d1 := Cells.new w1 #[.int .u8 m0, .int .u8 m1, .int .u16 m2, .string m3, .string m4] 166
  have hP : Pk (w1.alloc (.cells #[.int .u8 m0, .int .u8 m1, .int .u16 m2, .string m3, .string m4] 166)) B h l (seen0 h) := Cells.alloc (Cells.below b1 HC.out) _
  have hB : But B w (w1.alloc (.cells #[.int .u8 m0, .int .u8 m1, .int .u16 m2, .string m3, .string m4] 166)) := (But.of_below b1).step (fresh_below _ _)
  obtain ⟨xd1_0, xd1_1, xd1_2, xd1_3, xd1_4⟩ := d1.x5
  have HB := hide hB; have HD := hide d1; have HP := hide hP
  clear hB d1 b1 p8 hP
  go_wp2_with fail
  (with_reducible refine (C2.out _ (HK.out _ HB.out)).mono ?_)
  rintro e w2 ⟨rfl, b2⟩
  have d2 := Cells.below b2 HD.out
  have hP2 : Pk w2 B h l (seen0 h) := Cells.below b2 HP.out
  have hB2 := HB.out.step b2
  clear xd1_0 xd1_1 xd1_2 xd1_3 xd1_4 HB HD HP
  obtain ⟨xd2_0, xd2_1, xd2_2, xd2_3, xd2_4⟩ := d2.x5
  have HB := hide hB2; have HP := hide hP2
  clear hB2 d2 hP2 b2
  go_wp2_with fail
  (with_reducible refine (C3.out _).mono ?_)
  rintro e w3 ⟨rfl, b3⟩
  have hP4 : Pk w3 B h l (seen0 h) := Cells.below b3 HP.out
  have hB4 := HB.out.step b3
  have C4 := hide (fun a b => p_between B h l _ a b _ hP4)
  have HB4 := hide hB4
  clear hP4 hB4 b3 HB HP xd2_0 xd2_1 xd2_2 xd2_3 xd2_4
  go_wp2_with fail
  (with_reducible refine (C4.out _ _).mono ?_)
  rintro e w4 ⟨rfl, b4, hP⟩
  have hB5 := HB4.out.trans b4
  unfold seen0 at hP
  rw [hp] at hP
  have HP := hide hP; have HB5 := hide hB5
  clear hP hB5 b4 HB4
  go_wp2_with fail
  go_ret
  exact ⟨rfl, HB5.out, fun _ => HP.out⟩

set_option maxRecDepth 100000 in
set_option maxHeartbeats 2000000 in
theorem p_message_err (B : Nat) (h : Hd) (l : ByteArray) (m0 m1 m2 : Int) (m3 m4 : ByteArray) (id : Int) (x : Seen) (w0 w : World) (K0 : Kinds w0) (hb : Below w0.heap.size w0 w) (hn : w0.heap.size ≤ B) (hC : Pk w B h l (seen0 h)) (hp : h.p = 1)
    (c1 : ∀ W, Calls Tryz.prog 136 #[.string l] W (Ret (.tuple #[.agg #[.int .u8 m0, .int .u8 m1, .int .u16 m2, .string m3, .string m4], .bool true]) W))
    (c2 : ∀ W, Kinds W → Calls Tryz.prog 182 #[.agg #[.int .u8 m0, .int .u8 m1, .int .u16 m2, .string m3, .string m4]] W (Ret (.tuple #[.bool false, .bool false]) W))
    (c3 : ∀ W, Kinds W → Calls Tryz.prog 184 #[.agg #[.int .u8 m0, .int .u8 m1, .int .u16 m2, .string m3, .string m4]] W (Ret (.bool true) W)) :
    Calls Tryz.prog 128 #[.pointer (some ⟨B, 0, none⟩)] w (Looked B h l 0 ⟨⟨1, h.s, 0, h.d, 0⟩, 3, 0, false, h.l⟩ w) := by
  have p8 : w.cell? ⟨B, 8, none⟩ = some (.string l) := hC.at_ 8
  have hlt := hC.lt
  have KK : ∀ W, But B w W → Kinds W := fun W hW => K0.below (hb.trans (hW.below hn (Nat.le_of_lt hlt)))
  have C1 := hide c1; have C2 := hide c2; have HC := hide hC; have HK := hide KK; have HL := hide hlt
  clear c1 c2 hC KK hlt K0 hb hn
  have C3 := hide c3
  clear c3
  go_enter Tryz.func128, Tryz.ntmps128
  go_wp2_with fail
  (with_reducible refine (C1.out _).mono ?_)
  rintro e w1 ⟨rfl, b1⟩
  have hne : w1.heap.size ≠ B := by have := HL.out; have := b1.size; omega
  have d1 := Cells.new w1 #[.int .u8 m0, .int .u8 m1, .int .u16 m2, .string m3, .string m4] 166
  have hP : Pk (w1.alloc (.cells #[.int .u8 m0, .int .u8 m1, .int .u16 m2, .string m3, .string m4] 166)) B h l (seen0 h) := Cells.alloc (Cells.below b1 HC.out) _
  have hB : But B w (w1.alloc (.cells #[.int .u8 m0, .int .u8 m1, .int .u16 m2, .string m3, .string m4] 166)) := (But.of_below b1).step (fresh_below _ _)
  obtain ⟨xd1_0, xd1_1, xd1_2, xd1_3, xd1_4⟩ := d1.x5
  have HB := hide hB; have HD := hide d1; have HP := hide hP
  clear hB d1 b1 p8 hP
  go_wp2_with fail
  (with_reducible refine (C2.out _ (HK.out _ HB.out)).mono ?_)
  rintro e w2 ⟨rfl, b2⟩
  have d2 := Cells.below b2 HD.out
  have hP2 : Pk w2 B h l (seen0 h) := Cells.below b2 HP.out
  have hB2 := HB.out.step b2
  clear xd1_0 xd1_1 xd1_2 xd1_3 xd1_4 HB HD HP
  obtain ⟨xd2_0, xd2_1, xd2_2, xd2_3, xd2_4⟩ := d2.x5
  have HB := hide hB2; have HP := hide hP2
  clear hB2 d2 hP2 b2
  go_wp2_with fail
  (with_reducible refine (C3.out _ (HK.out _ HB.out)).mono ?_)
  rintro e w3 ⟨rfl, b3⟩
  have hP4 : Pk w3 B h l (seen0 h) := Cells.below b3 HP.out
  have hB4 := HB.out.step b3
  unfold Pk pkCells seen0 at hP4
  simp only at hP4
  have n14 : w3.cell? ⟨B, 14, none⟩ = some (.int .i64 2) := hP4.at_ 14
  have f14 := hP4.free 14
  have hP5 : Pk (w3.setCell ⟨B, 14, none⟩ (.int .i64 3)) B h l ⟨⟨0, 0, 0, 0, 0⟩, 3, 0, false, h.l⟩ := hP4.set_ 14 (.int .i64 3)
  have hB5 := hB4.set 14 (.int .i64 3)
  have C4 := hide (fun a b => p_between B h l _ a b _ hP5)
  have HB4 := hide hB5
  clear hP4 hB4 hP5 hB5 b3 HB HP xd2_0 xd2_1 xd2_2 xd2_3 xd2_4
  go_wp2_with fail
  (with_reducible refine (C4.out _ _).mono ?_)
  rintro e w4 ⟨rfl, b4, hP⟩
  have hB5 := HB4.out.trans b4
  rw [hp] at hP
  have HP := hide hP; have HB5 := hide hB5
  clear hP hB5 b4 HB4
  go_wp2_with fail
  go_ret
  exact ⟨rfl, HB5.out, fun _ => HP.out⟩

set_option maxRecDepth 100000 in
set_option maxHeartbeats 2000000 in
theorem p_message_none (B : Nat) (h : Hd) (l : ByteArray) (m0 m1 m2 : Int) (m3 m4 : ByteArray) (id : Int) (x : Seen) (w0 w : World) (K0 : Kinds w0) (hb : Below w0.heap.size w0 w) (hn : w0.heap.size ≤ B) (hC : Pk w B h l (seen0 h)) (hp : h.p = 1)
    (c1 : ∀ W, Calls Tryz.prog 136 #[.string l] W (Ret (.tuple #[.agg #[.int .u8 m0, .int .u8 m1, .int .u16 m2, .string m3, .string m4], .bool true]) W))
    (c2 : ∀ W, Kinds W → Calls Tryz.prog 182 #[.agg #[.int .u8 m0, .int .u8 m1, .int .u16 m2, .string m3, .string m4]] W (Ret (.tuple #[.bool false, .bool false]) W))
    (c3 : ∀ W, Kinds W → Calls Tryz.prog 184 #[.agg #[.int .u8 m0, .int .u8 m1, .int .u16 m2, .string m3, .string m4]] W (Ret (.bool false) W)) :
    Calls Tryz.prog 128 #[.pointer (some ⟨B, 0, none⟩)] w (Looked B h l 6 x w) := by
  have p8 : w.cell? ⟨B, 8, none⟩ = some (.string l) := hC.at_ 8
  have hlt := hC.lt
  have KK : ∀ W, But B w W → Kinds W := fun W hW => K0.below (hb.trans (hW.below hn (Nat.le_of_lt hlt)))
  have C1 := hide c1; have C2 := hide c2; have HC := hide hC; have HK := hide KK; have HL := hide hlt
  clear c1 c2 hC KK hlt K0 hb hn
  have C3 := hide c3
  clear c3
  go_enter Tryz.func128, Tryz.ntmps128
  go_wp2_with fail
  (with_reducible refine (C1.out _).mono ?_)
  rintro e w1 ⟨rfl, b1⟩
  have hne : w1.heap.size ≠ B := by have := HL.out; have := b1.size; omega
  have d1 := Cells.new w1 #[.int .u8 m0, .int .u8 m1, .int .u16 m2, .string m3, .string m4] 166
  have hP : Pk (w1.alloc (.cells #[.int .u8 m0, .int .u8 m1, .int .u16 m2, .string m3, .string m4] 166)) B h l (seen0 h) := Cells.alloc (Cells.below b1 HC.out) _
  have hB : But B w (w1.alloc (.cells #[.int .u8 m0, .int .u8 m1, .int .u16 m2, .string m3, .string m4] 166)) := (But.of_below b1).step (fresh_below _ _)
  obtain ⟨xd1_0, xd1_1, xd1_2, xd1_3, xd1_4⟩ := d1.x5
  have HB := hide hB; have HD := hide d1; have HP := hide hP
  clear hB d1 b1 p8 hP
  go_wp2_with fail
  (with_reducible refine (C2.out _ (HK.out _ HB.out)).mono ?_)
  rintro e w2 ⟨rfl, b2⟩
  have d2 := Cells.below b2 HD.out
  have hP2 : Pk w2 B h l (seen0 h) := Cells.below b2 HP.out
  have hB2 := HB.out.step b2
  clear xd1_0 xd1_1 xd1_2 xd1_3 xd1_4 HB HD HP
  obtain ⟨xd2_0, xd2_1, xd2_2, xd2_3, xd2_4⟩ := d2.x5
  have HB := hide hB2
  clear hB2 d2 hP2 b2
  go_wp2_with fail
  (with_reducible refine (C3.out _ (HK.out _ HB.out)).mono ?_)
  rintro e w3 ⟨rfl, b3⟩
  have HB4 := hide (HB.out.step b3)
  clear b3 HB xd2_0 xd2_1 xd2_2 xd2_3 xd2_4
  go_wp2_with fail
  go_ret
  exact ⟨rfl, HB4.out, fun e => absurd e (by decide)⟩

theorem p_message (B : Nat) (h : Hd) (l : ByteArray) (w0 w : World) (K0 : Kinds w0) (hb : Below w0.heap.size w0 w) (hn : w0.heap.size ≤ B) (hC : Pk w B h l (seen0 h)) (hl : l.size ≤ 140737488351232) (hp : h.p = 1) :
    Calls Tryz.prog 128 #[.pointer (some ⟨B, 0, none⟩)] w (Looked B h l (loadWhy 1 l) (loadSeen h l) w) := by
  unfold loadWhy loadSeen
  rw [if_neg (show ¬ (1 : Int) = 6 by decide), if_neg (show ¬ (1 : Int) = 17 by decide), if_pos (show (1 : Int) = 1 from rfl), if_neg (show ¬ h.p = 6 by omega), if_neg (show ¬ h.p = 17 by omega)]
  by_cases h8 : l.size < 8
  · rw [if_pos h8]
    exact p_message_no B h l _ w hC h8
  rw [if_neg h8]
  have ho := msgOf_ok hl
  have c1 := fun W => i_Parse_yes l W hl (by omega)
  have c2 := fun W K => i_Query (msgOf l) W ho K
  have c3 := fun W => i_ID (msgOf l) W ho
  have c4 := fun W K => i_Error (msgOf l) W ho K
  have hai : qAsk (msgOf l) = true → qIs (msgOf l) = true := by
    unfold qAsk qIs; simp; intro a b; exact ⟨a, Or.inl b⟩
  by_cases ha : qAsk (msgOf l) = true
  · rw [if_pos (Or.inl (hai ha)), if_pos ha]
    rw [ha] at c2
    exact p_message_ask B h l _ _ _ _ _ _ _ w0 w K0 hb hn hC hp c1 c2 c3
  rw [if_neg ha]
  rw [show qAsk (msgOf l) = false from by simpa using ha] at c2
  by_cases hi : qIs (msgOf l) = true
  · rw [if_pos (Or.inl hi), if_pos hi]
    rw [hi] at c2
    exact p_message_told B h l _ _ _ _ _ _ w0 w K0 hb hn hC hp c1 c2 c3
  rw [if_neg hi]
  rw [show qIs (msgOf l) = false from by simpa using hi] at c2
  by_cases he : qErr (msgOf l) = true
  · rw [if_pos (Or.inr he)]
    rw [he] at c4
    exact p_message_err B h l _ _ _ _ _ 0 seenNone w0 w K0 hb hn hC hp c1 c2 c4
  · rw [if_neg (by simp [hi, he])]
    rw [show qErr (msgOf l) = false from by simpa using he] at c4
    exact p_message_none B h l _ _ _ _ _ 0 _ w0 w K0 hb hn hC hp c1 c2 c4
end Go.Proofs.YtilfcikhipadpaaGreatDoor
end

section
/- The document's answer for ip (porterref04) over this program: what a text is as a packet. -/
set_option linter.unusedVariables false
set_option linter.unusedSimpArgs false
namespace Go.Proofs.YtilfcikhipadpaaGreatDoor
open Go.RowKit
attribute [local go_sem] Oper.semAt_some

set_option maxHeartbeats 1000000 in
theorem r4_Parse_1 (s : ByteArray) (w : World) (h : s.size < 20) :
    Calls Tryz.prog 81 #[.string s] w (Ret (.tuple #[hdZero, .string { data := #[] }, .int .i64 1]) w) := by
  have q2 : (s.size : Int) < 20 := by omega
  unfold hdZero
  go_enter Tryz.func81, Tryz.ntmps81
  go_wp2_with fail
  (try simp only [Exit.inBlock, Exit.then]); refine bodyPost_ret (by simp [results, Tryz.results81, go_sem]; try rfl) rfl ?_
  exact ⟨rfl, (by (repeat' (first | with_reducible exact Below.refl _ _ | with_reducible refine Below.setCell ?_ (by first | exact Nat.le_refl _ | (dsimp only; omega)) _ | with_reducible refine bstep ?_ (fresh_below _ _) | with_reducible refine Below.drew ?_)))⟩
set_option maxHeartbeats 1000000 in
theorem r4_Parse_2 (s : ByteArray) (w : World) (hs : s.size ≤ 140737488351232) (h : 20 ≤ s.size) (h2 : at_ (L s) 0 / 16 ≠ 4) :
    Calls Tryz.prog 81 #[.string s] w (Ret (.tuple #[hdZero, .string { data := #[] }, .int .i64 2]) w) := by
  have q2 : ¬ (s.size : Int) < 20 := by omega
  have e0 : (((s[0]'(by omega)).toNat : Nat) : Int) = at_ (L s) 0 := by rw [getElem_L s 0 (by omega)]; rfl
  have hb := at_bd (L s) 0
  have i4 : (0 : Int) < (s.size : Int) := by omega
  have i5 : 0 < s.size := by omega
  obtain ⟨x, hx⟩ : ∃ x, x = at_ (L s) 0 := ⟨_, rfl⟩
  rw [← hx] at e0 hb h2
  have m1 : (x / 16 != 4) = true := by simpa using h2
  have m2 : (x / 16 == 4) = false := by simpa using h2
  clear hx h2
  unfold hdZero
  go_enter Tryz.func81, Tryz.ntmps81
  go_wp2_with fail
  (try simp only [Exit.inBlock, Exit.then]); refine bodyPost_ret (by simp [results, Tryz.results81, go_sem]; try rfl) rfl ?_
  exact ⟨rfl, (by (repeat' (first | with_reducible exact Below.refl _ _ | with_reducible refine Below.setCell ?_ (by first | exact Nat.le_refl _ | (dsimp only; omega)) _ | with_reducible refine bstep ?_ (fresh_below _ _) | with_reducible refine Below.drew ?_)))⟩
set_option maxHeartbeats 2000000 in
theorem r4_Parse_3 (s : ByteArray) (w : World) (hs : s.size ≤ 140737488351232) (h : 20 ≤ s.size) (h2 : at_ (L s) 0 / 16 = 4) (h3 : ipFits s = false) :
    Calls Tryz.prog 81 #[.string s] w (Ret (.tuple #[hdZero, .string { data := #[] }, .int .i64 3]) w) := by
  have q2 : ¬ (s.size : Int) < 20 := by omega
  have e0 : (((s[0]'(by omega)).toNat : Nat) : Int) = at_ (L s) 0 := by rw [getElem_L s 0 (by omega)]; rfl
  have hb := at_bd (L s) 0
  have i4 : (0 : Int) < (s.size : Int) := by omega
  have i5 : 0 < s.size := by omega
  have c1 := fun w => r4_number s 2 w (by unfold maxLen; omega) (by omega)
  rw [show ((2 : Nat) : Int) = 2 from rfl] at c1
  have hcase : ipOwn (L s) < 20 ∨ (¬ ipOwn (L s) < 20 ∧ (s.size : Int) < ipOwn (L s)) ∨ (¬ ipOwn (L s) < 20 ∧ ¬ (s.size : Int) < ipOwn (L s) ∧ ipAll (L s) < ipOwn (L s)) ∨ (¬ ipOwn (L s) < 20 ∧ ¬ (s.size : Int) < ipOwn (L s) ∧ ¬ ipAll (L s) < ipOwn (L s) ∧ (s.size : Int) < ipAll (L s)) ∨ (¬ ipOwn (L s) < 20 ∧ ¬ (s.size : Int) < ipOwn (L s) ∧ ¬ ipAll (L s) < ipOwn (L s) ∧ ¬ (s.size : Int) < ipAll (L s) ∧ 2048 < ipAll (L s)) := by
    unfold ipFits at h3
    simp at h3
    omega
  unfold ipAll ipOwn at hcase
  have hyb := get16_bd (L s) 2
  obtain ⟨x, hx⟩ : ∃ x, x = at_ (L s) 0 := ⟨_, rfl⟩
  obtain ⟨z, hz⟩ : ∃ z, z = get16 (L s) 2 := ⟨_, rfl⟩
  rw [← hx] at e0 hb h2
  rw [← hz] at c1 hyb
  have m1 : (x / 16 != 4) = false := by simpa using h2
  have m2 : (x / 16 == 4) = true := by simpa using h2
  have m5 : x.tmod 16 = x % 16 := Int.tmod_eq_emod_of_nonneg (by omega)
  rw [← hx, ← hz] at hcase
  have C1 := hide c1
  clear c1 hx hz h2 h3
  unfold hdZero
  rcases hcase with g1 | ⟨g1, g2⟩ | ⟨g1, g2, g3⟩ | ⟨g1, g2, g3, g4⟩ | ⟨g1, g2, g3, g4, g5⟩
  all_goals
    go_enter Tryz.func81, Tryz.ntmps81
    have d0 := Cells.new w #[.int .u8 0, .int .u16 0, .bool false, .int .u8 0, .int .u8 0, .int .u32 0, .int .u32 0, .string { data := #[] }] 160
    go_wp2_with fail
    go_quiet ((go_at_call 138; refine Calls.quiet_of_same (C1.out _)))
    have d1 : Cells ((w.alloc (.cells #[.int .u8 0, .int .u16 0, .bool false, .int .u8 0, .int .u8 0, .int .u32 0, .int .u32 0, .string { data := #[] }] 160)).drewN nq) w.heap.size #[.int .u8 0, .int .u16 0, .bool false, .int .u8 0, .int .u8 0, .int .u32 0, .int .u32 0, .string { data := #[] }] 160 := d0
    have b1 : Below w.heap.size w ((w.alloc (.cells #[.int .u8 0, .int .u16 0, .bool false, .int .u8 0, .int .u8 0, .int .u32 0, .int .u32 0, .string { data := #[] }] 160)).drewN nq) := below_drewN (fresh_below _ _) nq
    clear d0
    generalize (w.alloc (.cells #[.int .u8 0, .int .u16 0, .bool false, .int .u8 0, .int .u8 0, .int .u32 0, .int .u32 0, .string { data := #[] }] 160)).drewN nq = w1 at *
    obtain ⟨xd1_0, xd1_1, xd1_2, xd1_3, xd1_4, xd1_5, xd1_6, xd1_7⟩ := d1.x8
    obtain ⟨yd1_0, yd1_1, yd1_2, yd1_3, yd1_4, yd1_5, yd1_6, yd1_7⟩ := d1.y8
    go_wp2_with fail
    have r5 := (Cells.put8 d1 (.int .u8 0) (.int .u16 0) (.bool false) (.int .u8 0) (.int .u8 0) (.int .u32 0) (.int .u32 0) (.string { data := #[] }))
    have b5 := (Below.put8 b1 (b := w.heap.size) (by first | exact Nat.le_refl _ | omega) (.int .u8 0) (.int .u16 0) (.bool false) (.int .u8 0) (.int .u8 0) (.int .u32 0) (.int .u32 0) (.string { data := #[] }))
    have HR5 := hide r5; have HB5 := hide b5
    clear r5 b5 d1
    generalize ((((((((w1.setCell ⟨w.heap.size, 0, none⟩ (.int .u8 0)).setCell ⟨w.heap.size, 1, none⟩ (.int .u16 0)).setCell ⟨w.heap.size, 2, none⟩ (.bool false)).setCell ⟨w.heap.size, 3, none⟩ (.int .u8 0)).setCell ⟨w.heap.size, 4, none⟩ (.int .u8 0)).setCell ⟨w.heap.size, 5, none⟩ (.int .u32 0)).setCell ⟨w.heap.size, 6, none⟩ (.int .u32 0)).setCell ⟨w.heap.size, 7, none⟩ (.string { data := #[] })) = W5 at *
    have r5 := HR5.out; have b5 := HB5.out
    clear HR5 HB5
    obtain ⟨xr5_0, xr5_1, xr5_2, xr5_3, xr5_4, xr5_5, xr5_6, xr5_7⟩ := r5.x8
    (try simp only [Exit.inBlock, Exit.then]); refine bodyPost_ret (by simp [results, Tryz.results81, go_sem, *]; try rfl) rfl ?_
    exact ⟨rfl, b5⟩

end Go.Proofs.YtilfcikhipadpaaGreatDoor
end

section
/- The document's answer for ip (porterref04) over this program: what may not hold, and what does. -/
set_option linter.unusedVariables false
set_option linter.unusedSimpArgs false
namespace Go.Proofs.YtilfcikhipadpaaGreatDoor
open Go.RowKit
attribute [local go_sem] Oper.semAt_some

set_option maxHeartbeats 2000000 in
theorem r4_Parse_4 (s : ByteArray) (w : World) (hs : s.size ≤ 140737488351232) (h : 20 ≤ s.size) (h2 : at_ (L s) 0 / 16 = 4) (h3 : ipFits s = true) (h4 : holds [(L s).take (ipOwn (L s)).toNat] = false) :
    Calls Tryz.prog 81 #[.string s] w (Ret (.tuple #[hdZero, .string { data := #[] }, .int .i64 4]) w) := by
  have q2 : ¬ (s.size : Int) < 20 := by omega
  have e0 : (((s[0]'(by omega)).toNat : Nat) : Int) = at_ (L s) 0 := by rw [getElem_L s 0 (by omega)]; rfl
  have hb := at_bd (L s) 0
  have i4 : (0 : Int) < (s.size : Int) := by omega
  have i5 : 0 < s.size := by omega
  have c1 := fun w => r4_number s 2 w (by unfold maxLen; omega) (by omega)
  rw [show ((2 : Nat) : Int) = 2 from rfl] at c1
  have f0 : 20 ≤ ipOwn (L s) ∧ ipOwn (L s) ≤ ipAll (L s) ∧ ipAll (L s) ≤ s.size ∧ ipAll (L s) ≤ 2048 := by unfold ipFits at h3; simpa [and_assoc] using h3
  have c2 := fun W => r_Holds (some ⟨W.heap.size, 0, none⟩) 1 1 [s.extract 0 (ipOwn (L s)).toNat] (W.alloc (.cells #[.string (s.extract 0 (ipOwn (L s)).toNat)] 9)) (Row.freshAt W #[.string (s.extract 0 (ipOwn (L s)).toNat)] 9 W.heap.size _ _ rfl rfl rfl) (by
      intro x hx
      simp only [List.mem_cons, List.not_mem_nil, or_false] at hx
      subst hx
      rw [ByteArray.size_extract]; omega) (by omega)
  rw [show [s.extract 0 (ipOwn (L s)).toNat].map L = [(L s).take (ipOwn (L s)).toNat] from by rw [← L_to]; rfl, h4] at c2
  have hyb := get16_bd (L s) 2
  obtain ⟨x, hx⟩ : ∃ x, x = at_ (L s) 0 := ⟨_, rfl⟩
  obtain ⟨z, hz⟩ : ∃ z, z = ipAll (L s) := ⟨_, rfl⟩
  obtain ⟨y, hy⟩ : ∃ y, y = ipOwn (L s) := ⟨_, rfl⟩
  have hyx : y = x % 16 * 4 := by rw [hy, hx]; rfl
  rw [← hx] at e0 hb h2
  rw [show get16 (L s) 2 = ipAll (L s) from rfl, ← hz] at c1
  rw [show get16 (L s) 2 = ipAll (L s) from rfl, ← hz] at hyb
  rw [← hy, ← hz] at f0
  rw [← hy] at c2
  subst hyx
  have m1 : (x / 16 != 4) = false := by simpa using h2
  have m2 : (x / 16 == 4) = true := by simpa using h2
  have m5 : x.tmod 16 = x % 16 := Int.tmod_eq_emod_of_nonneg (by omega)
  obtain ⟨f1, f2, f3, f4⟩ := f0
  have g1 : ¬ x % 16 * 4 < 20 := by omega
  have g2 : ¬ (s.size : Int) < x % 16 * 4 := by omega
  have g3 : ¬ z < x % 16 * 4 := by omega
  have g4 : ¬ (s.size : Int) < z := by omega
  have g5 : ¬ 2048 < z := by omega
  have y0 : (0 : Int) ≤ x % 16 * 4 := by omega
  have y1 : x % 16 * 4 ≤ (s.size : Int) := by omega
  have C1 := hide c1; have C2 := hide c2
  clear c1 c2 hx hy hz h2 h3 h4
  unfold hdZero
  go_enter Tryz.func81, Tryz.ntmps81
  have d0 := Cells.new w #[.int .u8 0, .int .u16 0, .bool false, .int .u8 0, .int .u8 0, .int .u32 0, .int .u32 0, .string { data := #[] }] 160
  go_wp2_with fail
  go_quiet ((go_at_call 138; refine Calls.quiet_of_same (C1.out _)))
  have d1 : Cells ((w.alloc (.cells #[.int .u8 0, .int .u16 0, .bool false, .int .u8 0, .int .u8 0, .int .u32 0, .int .u32 0, .string { data := #[] }] 160)).drewN nq) w.heap.size #[.int .u8 0, .int .u16 0, .bool false, .int .u8 0, .int .u8 0, .int .u32 0, .int .u32 0, .string { data := #[] }] 160 := d0
  have b1 : Below w.heap.size w ((w.alloc (.cells #[.int .u8 0, .int .u16 0, .bool false, .int .u8 0, .int .u8 0, .int .u32 0, .int .u32 0, .string { data := #[] }] 160)).drewN nq) := below_drewN (fresh_below _ _) nq
  clear d0
  generalize (w.alloc (.cells #[.int .u8 0, .int .u16 0, .bool false, .int .u8 0, .int .u8 0, .int .u32 0, .int .u32 0, .string { data := #[] }] 160)).drewN nq = w1 at *
  go_wp2_with fail
  (with_reducible refine (C2.out _).mono ?_)
  rintro e w2 ⟨rfl, b2⟩
  have d2 := Cells.up d1 (fresh_below _ _) b2
  replace b2 : Below w.heap.size w w2 := bstep (bstep b1 (fresh_below _ _)) b2
  clear d1 b1
  obtain ⟨xd2_0, xd2_1, xd2_2, xd2_3, xd2_4, xd2_5, xd2_6, xd2_7⟩ := d2.x8
  obtain ⟨yd2_0, yd2_1, yd2_2, yd2_3, yd2_4, yd2_5, yd2_6, yd2_7⟩ := d2.y8
  go_wp2_with fail
  have r5 := (Cells.put8 d2 (.int .u8 0) (.int .u16 0) (.bool false) (.int .u8 0) (.int .u8 0) (.int .u32 0) (.int .u32 0) (.string { data := #[] }))
  have b5 := (Below.put8 b2 (b := w.heap.size) (by first | exact Nat.le_refl _ | omega) (.int .u8 0) (.int .u16 0) (.bool false) (.int .u8 0) (.int .u8 0) (.int .u32 0) (.int .u32 0) (.string { data := #[] }))
  have HR5 := hide r5; have HB5 := hide b5
  clear r5 b5 d2
  generalize ((((((((w2.setCell ⟨w.heap.size, 0, none⟩ (.int .u8 0)).setCell ⟨w.heap.size, 1, none⟩ (.int .u16 0)).setCell ⟨w.heap.size, 2, none⟩ (.bool false)).setCell ⟨w.heap.size, 3, none⟩ (.int .u8 0)).setCell ⟨w.heap.size, 4, none⟩ (.int .u8 0)).setCell ⟨w.heap.size, 5, none⟩ (.int .u32 0)).setCell ⟨w.heap.size, 6, none⟩ (.int .u32 0)).setCell ⟨w.heap.size, 7, none⟩ (.string { data := #[] })) = W5 at *
  have r5 := HR5.out; have b5 := HB5.out
  clear HR5 HB5
  obtain ⟨xr5_0, xr5_1, xr5_2, xr5_3, xr5_4, xr5_5, xr5_6, xr5_7⟩ := r5.x8
  (try simp only [Exit.inBlock, Exit.then]); refine bodyPost_ret (by simp [results, Tryz.results81, go_sem, *]; try rfl) rfl ?_
  exact ⟨rfl, b5⟩

set_option maxRecDepth 100000 in
set_option maxHeartbeats 2000000 in
theorem r4_Parse_5 (s : ByteArray) (w : World) (hs : s.size ≤ 140737488351232) (h : 20 ≤ s.size) (h2 : at_ (L s) 0 / 16 = 4) (h3 : ipFits s = true) (h4 : holds [(L s).take (ipOwn (L s)).toNat] = true) (h5 : get16 (L s) 6 ≠ 0 ∧ get16 (L s) 6 ≠ 16384) :
    Calls Tryz.prog 81 #[.string s] w (Ret (.tuple #[hdZero, .string { data := #[] }, .int .i64 5]) w) := by
  have q2 : ¬ (s.size : Int) < 20 := by omega
  have e0 : (((s[0]'(by omega)).toNat : Nat) : Int) = at_ (L s) 0 := by rw [getElem_L s 0 (by omega)]; rfl
  have hb := at_bd (L s) 0
  have i4 : (0 : Int) < (s.size : Int) := by omega
  have i5 : 0 < s.size := by omega
  have c1 := fun w => r4_number s 2 w (by unfold maxLen; omega) (by omega)
  rw [show ((2 : Nat) : Int) = 2 from rfl] at c1
  have f0 : 20 ≤ ipOwn (L s) ∧ ipOwn (L s) ≤ ipAll (L s) ∧ ipAll (L s) ≤ s.size ∧ ipAll (L s) ≤ 2048 := by unfold ipFits at h3; simpa [and_assoc] using h3
  have c2 := fun W => r_Holds (some ⟨W.heap.size, 0, none⟩) 1 1 [s.extract 0 (ipOwn (L s)).toNat] (W.alloc (.cells #[.string (s.extract 0 (ipOwn (L s)).toNat)] 9)) (Row.freshAt W #[.string (s.extract 0 (ipOwn (L s)).toNat)] 9 W.heap.size _ _ rfl rfl rfl) (by
      intro x hx
      simp only [List.mem_cons, List.not_mem_nil, or_false] at hx
      subst hx
      rw [ByteArray.size_extract]; omega) (by omega)
  rw [show [s.extract 0 (ipOwn (L s)).toNat].map L = [(L s).take (ipOwn (L s)).toNat] from by rw [← L_to]; rfl, h4] at c2
  have hyb := get16_bd (L s) 2
  have c6 := fun W => r4_number s 6 W (by unfold maxLen; omega) (by omega)
  rw [show ((6 : Nat) : Int) = 6 from rfl] at c6
  obtain ⟨v7, hv7⟩ : ∃ v, v = get16 (L s) 6 := ⟨_, rfl⟩
  rw [← hv7] at c6 h5
  have C6 := hide c6
  have g6 : (v7 != 0) = true := by simpa using h5.1
  have g7 : (v7 != 16384) = true := by simpa using h5.2
  obtain ⟨x, hx⟩ : ∃ x, x = at_ (L s) 0 := ⟨_, rfl⟩
  obtain ⟨z, hz⟩ : ∃ z, z = ipAll (L s) := ⟨_, rfl⟩
  obtain ⟨y, hy⟩ : ∃ y, y = ipOwn (L s) := ⟨_, rfl⟩
  have hyx : y = x % 16 * 4 := by rw [hy, hx]; rfl
  rw [← hx] at e0 hb h2
  rw [show get16 (L s) 2 = ipAll (L s) from rfl, ← hz] at c1
  rw [show get16 (L s) 2 = ipAll (L s) from rfl, ← hz] at hyb
  rw [← hy, ← hz] at f0
  rw [← hy] at c2
  subst hyx
  have m1 : (x / 16 != 4) = false := by simpa using h2
  have m2 : (x / 16 == 4) = true := by simpa using h2
  have m5 : x.tmod 16 = x % 16 := Int.tmod_eq_emod_of_nonneg (by omega)
  obtain ⟨f1, f2, f3, f4⟩ := f0
  have g1 : ¬ x % 16 * 4 < 20 := by omega
  have g2 : ¬ (s.size : Int) < x % 16 * 4 := by omega
  have g3 : ¬ z < x % 16 * 4 := by omega
  have g4 : ¬ (s.size : Int) < z := by omega
  have g5 : ¬ 2048 < z := by omega
  have y0 : (0 : Int) ≤ x % 16 * 4 := by omega
  have y1 : x % 16 * 4 ≤ (s.size : Int) := by omega
  have C1 := hide c1; have C2 := hide c2
  clear c1 c2 c6 hx hy hz h2 h3 h4 hv7 h5
  unfold hdZero
  go_enter Tryz.func81, Tryz.ntmps81
  have d0 := Cells.new w #[.int .u8 0, .int .u16 0, .bool false, .int .u8 0, .int .u8 0, .int .u32 0, .int .u32 0, .string { data := #[] }] 160
  go_wp2_with fail
  go_quiet ((go_at_call 138; refine Calls.quiet_of_same (C1.out _)))
  have d1 : Cells ((w.alloc (.cells #[.int .u8 0, .int .u16 0, .bool false, .int .u8 0, .int .u8 0, .int .u32 0, .int .u32 0, .string { data := #[] }] 160)).drewN nq) w.heap.size #[.int .u8 0, .int .u16 0, .bool false, .int .u8 0, .int .u8 0, .int .u32 0, .int .u32 0, .string { data := #[] }] 160 := d0
  have b1 : Below w.heap.size w ((w.alloc (.cells #[.int .u8 0, .int .u16 0, .bool false, .int .u8 0, .int .u8 0, .int .u32 0, .int .u32 0, .string { data := #[] }] 160)).drewN nq) := below_drewN (fresh_below _ _) nq
  clear d0
  generalize (w.alloc (.cells #[.int .u8 0, .int .u16 0, .bool false, .int .u8 0, .int .u8 0, .int .u32 0, .int .u32 0, .string { data := #[] }] 160)).drewN nq = w1 at *
  go_wp2_with fail
  (with_reducible refine (C2.out _).mono ?_)
  rintro e w2 ⟨rfl, b2⟩
  have d2 := Cells.up d1 (fresh_below _ _) b2
  replace b2 : Below w.heap.size w w2 := bstep (bstep b1 (fresh_below _ _)) b2
  clear d1 b1
  go_wp2_with fail
  (with_reducible refine (C6.out _).mono ?_)
  rintro e w3 ⟨rfl, rfl⟩
  obtain ⟨xd2_0, xd2_1, xd2_2, xd2_3, xd2_4, xd2_5, xd2_6, xd2_7⟩ := d2.x8
  obtain ⟨yd2_0, yd2_1, yd2_2, yd2_3, yd2_4, yd2_5, yd2_6, yd2_7⟩ := d2.y8
  go_wp2_with fail
  have r5 := (Cells.put8 d2 (.int .u8 0) (.int .u16 0) (.bool false) (.int .u8 0) (.int .u8 0) (.int .u32 0) (.int .u32 0) (.string { data := #[] }))
  have b5 := (Below.put8 b2 (b := w.heap.size) (by first | exact Nat.le_refl _ | omega) (.int .u8 0) (.int .u16 0) (.bool false) (.int .u8 0) (.int .u8 0) (.int .u32 0) (.int .u32 0) (.string { data := #[] }))
  have HR5 := hide r5; have HB5 := hide b5
  clear r5 b5 d2
  generalize ((((((((w3.setCell ⟨w.heap.size, 0, none⟩ (.int .u8 0)).setCell ⟨w.heap.size, 1, none⟩ (.int .u16 0)).setCell ⟨w.heap.size, 2, none⟩ (.bool false)).setCell ⟨w.heap.size, 3, none⟩ (.int .u8 0)).setCell ⟨w.heap.size, 4, none⟩ (.int .u8 0)).setCell ⟨w.heap.size, 5, none⟩ (.int .u32 0)).setCell ⟨w.heap.size, 6, none⟩ (.int .u32 0)).setCell ⟨w.heap.size, 7, none⟩ (.string { data := #[] })) = W5 at *
  have r5 := HR5.out; have b5 := HB5.out
  clear HR5 HB5
  obtain ⟨xr5_0, xr5_1, xr5_2, xr5_3, xr5_4, xr5_5, xr5_6, xr5_7⟩ := r5.x8
  (try simp only [Exit.inBlock, Exit.then]); refine bodyPost_ret (by simp [results, Tryz.results81, go_sem, *]; try rfl) rfl ?_
  exact ⟨rfl, b5⟩

set_option maxRecDepth 100000 in
set_option maxHeartbeats 2000000 in
theorem r4_Parse_0 (s : ByteArray) (w : World) (hs : s.size ≤ 140737488351232) (h : 20 ≤ s.size) (h2 : at_ (L s) 0 / 16 = 4) (h3 : ipFits s = true) (h4 : holds [(L s).take (ipOwn (L s)).toNat] = true) (h5 : get16 (L s) 6 = 0 ∨ get16 (L s) 6 = 16384) :
    Calls Tryz.prog 81 #[.string s] w (Ret (.tuple #[.agg (hdOf s).cells, .string (s.extract (ipOwn (L s)).toNat (ipAll (L s)).toNat), .int .i64 0]) w) := by
  have q2 : ¬ (s.size : Int) < 20 := by omega
  have e0 : (((s[0]'(by omega)).toNat : Nat) : Int) = at_ (L s) 0 := by rw [getElem_L s 0 (by omega)]; rfl
  have hb := at_bd (L s) 0
  have i4 : (0 : Int) < (s.size : Int) := by omega
  have i5 : 0 < s.size := by omega
  have c1 := fun w => r4_number s 2 w (by unfold maxLen; omega) (by omega)
  rw [show ((2 : Nat) : Int) = 2 from rfl] at c1
  have f0 : 20 ≤ ipOwn (L s) ∧ ipOwn (L s) ≤ ipAll (L s) ∧ ipAll (L s) ≤ s.size ∧ ipAll (L s) ≤ 2048 := by unfold ipFits at h3; simpa [and_assoc] using h3
  have c2 := fun W => r_Holds (some ⟨W.heap.size, 0, none⟩) 1 1 [s.extract 0 (ipOwn (L s)).toNat] (W.alloc (.cells #[.string (s.extract 0 (ipOwn (L s)).toNat)] 9)) (Row.freshAt W #[.string (s.extract 0 (ipOwn (L s)).toNat)] 9 W.heap.size _ _ rfl rfl rfl) (by
      intro x hx
      simp only [List.mem_cons, List.not_mem_nil, or_false] at hx
      subst hx
      rw [ByteArray.size_extract]; omega) (by omega)
  rw [show [s.extract 0 (ipOwn (L s)).toNat].map L = [(L s).take (ipOwn (L s)).toNat] from by rw [← L_to]; rfl, h4] at c2
  have hyb := get16_bd (L s) 2
  have i1 : (1 : Int) < (s.size : Int) := by omega
  have i1' : 1 < s.size := by omega
  have i8 : (8 : Int) < (s.size : Int) := by omega
  have i8' : 8 < s.size := by omega
  have i9 : (9 : Int) < (s.size : Int) := by omega
  have i9' : 9 < s.size := by omega
  have e1 : (((s[1]'(by omega)).toNat : Nat) : Int) = at_ (L s) 1 := by rw [getElem_L s 1 (by omega)]; rfl
  have e8 : (((s[8]'(by omega)).toNat : Nat) : Int) = at_ (L s) 8 := by rw [getElem_L s 8 (by omega)]; rfl
  have e9 : (((s[9]'(by omega)).toNat : Nat) : Int) = at_ (L s) 9 := by rw [getElem_L s 9 (by omega)]; rfl
  have c3 := fun W => r4_number s 4 W (by unfold maxLen; omega) (by omega)
  have c4 := fun W => r4_addr s 12 W (by unfold maxLen; omega) (by omega)
  have c5 := fun W => r4_addr s 16 W (by unfold maxLen; omega) (by omega)
  have c6 := fun W => r4_number s 6 W (by unfold maxLen; omega) (by omega)
  rw [show ((4 : Nat) : Int) = 4 from rfl] at c3
  rw [show ((12 : Nat) : Int) = 12 from rfl] at c4
  rw [show ((16 : Nat) : Int) = 16 from rfl] at c5
  rw [show ((6 : Nat) : Int) = 6 from rfl] at c6
  have hv2b := get16_bd (L s) 4
  unfold Hd.cells hdOf
  obtain ⟨v1, hv1⟩ : ∃ v, v = at_ (L s) 1 := ⟨_, rfl⟩
  obtain ⟨v2, hv2⟩ : ∃ v, v = get16 (L s) 4 := ⟨_, rfl⟩
  obtain ⟨v3, hv3⟩ : ∃ v, v = at_ (L s) 8 := ⟨_, rfl⟩
  obtain ⟨v4, hv4⟩ : ∃ v, v = at_ (L s) 9 := ⟨_, rfl⟩
  obtain ⟨v5, hv5⟩ : ∃ v, v = get32 (L s) 12 := ⟨_, rfl⟩
  obtain ⟨v6, hv6⟩ : ∃ v, v = get32 (L s) 16 := ⟨_, rfl⟩
  obtain ⟨v7, hv7⟩ : ∃ v, v = get16 (L s) 6 := ⟨_, rfl⟩
  simp only [← hv1, ← hv2, ← hv3, ← hv4, ← hv5, ← hv6, ← hv7] at c3 c4 c5 c6 e1 e8 e9 h5 hv2b ⊢
  obtain ⟨fl, hfl⟩ : ∃ f, f = decide (v7 = 16384) := ⟨_, rfl⟩
  rw [← hfl]
  have g6 : (v7 != 0) = fl := by rcases h5 with h5 | h5 <;> subst h5 <;> rw [hfl] <;> rfl
  have g7 : fl = true → (v7 != 16384) = false := by intro hf; rw [hfl] at hf; simpa using hf
  have g8 : decide (0 < v7) = fl := by rcases h5 with h5 | h5 <;> subst h5 <;> rw [hfl] <;> rfl
  have C3 := hide c3; have C4 := hide c4; have C5 := hide c5; have C6 := hide c6
  obtain ⟨x, hx⟩ : ∃ x, x = at_ (L s) 0 := ⟨_, rfl⟩
  obtain ⟨z, hz⟩ : ∃ z, z = ipAll (L s) := ⟨_, rfl⟩
  obtain ⟨y, hy⟩ : ∃ y, y = ipOwn (L s) := ⟨_, rfl⟩
  have hyx : y = x % 16 * 4 := by rw [hy, hx]; rfl
  rw [← hx] at e0 hb h2
  rw [show get16 (L s) 2 = ipAll (L s) from rfl, ← hz] at c1
  rw [show get16 (L s) 2 = ipAll (L s) from rfl, ← hz] at hyb
  rw [← hy, ← hz] at f0 ⊢
  rw [← hy] at c2
  subst hyx
  have m1 : (x / 16 != 4) = false := by simpa using h2
  have m2 : (x / 16 == 4) = true := by simpa using h2
  have m5 : x.tmod 16 = x % 16 := Int.tmod_eq_emod_of_nonneg (by omega)
  obtain ⟨f1, f2, f3, f4⟩ := f0
  have g1 : ¬ x % 16 * 4 < 20 := by omega
  have g2 : ¬ (s.size : Int) < x % 16 * 4 := by omega
  have g3 : ¬ z < x % 16 * 4 := by omega
  have g4 : ¬ (s.size : Int) < z := by omega
  have g5 : ¬ 2048 < z := by omega
  have y0 : (0 : Int) ≤ x % 16 * 4 := by omega
  have y1 : x % 16 * 4 ≤ (s.size : Int) := by omega
  have C1 := hide c1; have C2 := hide c2
  clear c1 c2 c3 c4 c5 c6 hx hy hz h2 h3 h4 h5 hfl hv1 hv2 hv3 hv4 hv5 hv6 hv7
  have hfl2 : fl = true ∨ fl = false := by cases fl <;> simp
  rcases hfl2 with rfl | rfl
  · have g9 := g7 rfl
    go_enter Tryz.func81, Tryz.ntmps81
    have d0 := Cells.new w #[.int .u8 0, .int .u16 0, .bool false, .int .u8 0, .int .u8 0, .int .u32 0, .int .u32 0, .string { data := #[] }] 160
    go_wp2_with fail
    go_quiet ((go_at_call 138; refine Calls.quiet_of_same (C1.out _)))
    have d1 : Cells ((w.alloc (.cells #[.int .u8 0, .int .u16 0, .bool false, .int .u8 0, .int .u8 0, .int .u32 0, .int .u32 0, .string { data := #[] }] 160)).drewN nq) w.heap.size #[.int .u8 0, .int .u16 0, .bool false, .int .u8 0, .int .u8 0, .int .u32 0, .int .u32 0, .string { data := #[] }] 160 := d0
    have b1 : Below w.heap.size w ((w.alloc (.cells #[.int .u8 0, .int .u16 0, .bool false, .int .u8 0, .int .u8 0, .int .u32 0, .int .u32 0, .string { data := #[] }] 160)).drewN nq) := below_drewN (fresh_below _ _) nq
    clear d0
    generalize (w.alloc (.cells #[.int .u8 0, .int .u16 0, .bool false, .int .u8 0, .int .u8 0, .int .u32 0, .int .u32 0, .string { data := #[] }] 160)).drewN nq = w1 at *
    go_wp2_with fail
    (with_reducible refine (C2.out _).mono ?_)
    rintro e w2 ⟨rfl, b2⟩
    have d2 := Cells.up d1 (fresh_below _ _) b2
    replace b2 : Below w.heap.size w w2 := bstep (bstep b1 (fresh_below _ _)) b2
    clear d1 b1
    go_wp2_with fail
    (with_reducible refine (C6.out _).mono ?_)
    rintro e w3 ⟨rfl, rfl⟩
    have z2 : w.heap.size < w3.heap.size := d2.lt
    go_wp2_with fail
    refine' share (P := _) (fun key => ?main) ?rest
    case main =>
      refine wp_region_held_drew (S := fun _ => True) (by kernel_rfl) trivial (fun _ => ?_)
      refine tH 0 rfl trivial ?_
      try simp only [Act.put, putT]
      refine tH 1 rfl trivial ?_
      try simp only [Act.put, putT]
      refine tH 2 rfl trivial ?_
      try simp only [Act.put, putT]
      refine tH 5 rfl trivial ?_
      try simp only [Act.put, putT]
      refine tH 6 rfl trivial ?_
      try simp only [Act.put, putT]
      refine tH 7 rfl trivial ?_
      try simp only [Act.put, putT]
      refine tH 8 rfl trivial ?_
      try simp only [Act.put, putT]
      refine tH 9 rfl trivial ?_
      try simp only [Act.put, putT]
      refine tH 10 rfl trivial ?_
      try simp only [Act.put, putT]
      refine tH 11 rfl trivial ?_
      try simp only [Act.put, putT]
      refine tH 13 rfl trivial ?_
      try simp only [Act.put, putT]
      refine tH 15 rfl trivial ?_
      try simp only [Act.put, putT]
      refine tH 16 rfl trivial ?_
      try simp only [Act.put, putT]
      refine tH 17 rfl trivial ?_
      try simp only [Act.put, putT]
      refine wpAnyH_ready (rs := [3, 19]) (by kernel_rfl) (by simp) ?_
      refine AllReadyH.cons rfl (fun K hK => ?_) (AllReadyH.cons rfl (fun K hK => ?_) AllReadyH.nil)
      · skip
        rw [if_pos (by rfl)]
        (try simp only [putG])
        go_simp
        (with_reducible refine (C3.out _).mono ?_)
        rintro e wq ⟨rfl, rfl⟩
        (try rw [alloc_drewN])
        try go_wp2_with fail
        refine hK.out _ _ trivial (fun _ => ?_)
        clear hK K
        try simp only [Act.put, putT]
        refine tH 4 rfl trivial ?_
        try simp only [Act.put, putT]
        refine wpAnyH_ready (rs := [12, 19]) (by kernel_rfl) (by simp) ?_
        refine AllReadyH.cons rfl (fun K hK => ?_) (AllReadyH.cons rfl (fun K hK => ?_) AllReadyH.nil)
        · skip
          rw [if_pos (by rfl)]
          (try simp only [putG])
          go_simp
          (with_reducible refine (C4.out _).mono ?_)
          rintro e wq ⟨rfl, rfl⟩
          (try rw [alloc_drewN])
          try go_wp2_with fail
          refine hK.out _ _ trivial (fun _ => ?_)
          clear hK K
          try simp only [Act.put, putT]
          refine wpAnyH_ready (rs := [14, 19]) (by kernel_rfl) (by simp) ?_
          refine AllReadyH.cons rfl (fun K hK => ?_) (AllReadyH.cons rfl (fun K hK => ?_) AllReadyH.nil)
          · skip
            rw [if_pos (by rfl)]
            (try simp only [putG])
            go_simp
            (with_reducible refine (C5.out _).mono ?_)
            rintro e wq ⟨rfl, rfl⟩
            (try rw [alloc_drewN])
            try go_wp2_with fail
            refine hK.out _ _ trivial (fun _ => ?_)
            clear hK K
            try simp only [Act.put, putT]
            refine tH 18 rfl trivial ?_
            try simp only [Act.put, putT]
            refine wpAnyH_ready (rs := [19]) (by kernel_rfl) (by simp) ?_
            refine AllReadyH.cons rfl (fun K hK => ?_) AllReadyH.nil
            rw [if_pos (by rfl)]
            (try simp only [putG])
            go_simp
            refine hK.out _ _ trivial (fun _ => ?_)
            clear hK K
            try simp only [Act.put, putT]
            refine wpAnyH_ready (rs := [20]) (by kernel_rfl) (by simp) ?_
            refine AllReadyH.cons rfl (fun K hK => ?_) AllReadyH.nil
            rw [if_pos (by rfl)]
            (try simp only [putG])
            go_simp
            refine hK.out _ _ trivial (fun _ => ?_)
            clear hK K
            try simp only [Act.put, putT]
            refine wpAnyH_done (by kernel_rfl) ?_ _
            exact key
          · skip
            rw [if_pos (by rfl)]
            (try simp only [putG])
            go_simp
            refine hK.out _ _ trivial (fun _ => ?_)
            clear hK K
            try simp only [Act.put, putT]
            refine wpAnyH_ready (rs := [14]) (by kernel_rfl) (by simp) ?_
            refine AllReadyH.cons rfl (fun K hK => ?_) AllReadyH.nil
            rw [if_pos (by rfl)]
            (try simp only [putG])
            go_simp
            (with_reducible refine (C5.out _).mono ?_)
            rintro e wq ⟨rfl, rfl⟩
            (try rw [alloc_drewN])
            try go_wp2_with fail
            refine hK.out _ _ trivial (fun _ => ?_)
            clear hK K
            try simp only [Act.put, putT]
            refine tH 18 rfl trivial ?_
            try simp only [Act.put, putT]
            refine wpAnyH_ready (rs := [20]) (by kernel_rfl) (by simp) ?_
            refine AllReadyH.cons rfl (fun K hK => ?_) AllReadyH.nil
            rw [if_pos (by rfl)]
            (try simp only [putG])
            go_simp
            refine hK.out _ _ trivial (fun _ => ?_)
            clear hK K
            try simp only [Act.put, putT]
            refine wpAnyH_done (by kernel_rfl) ?_ _
            exact key
        · skip
          rw [if_pos (by rfl)]
          (try simp only [putG])
          go_simp
          refine hK.out _ _ trivial (fun _ => ?_)
          clear hK K
          try simp only [Act.put, putT]
          refine wpAnyH_ready (rs := [12]) (by kernel_rfl) (by simp) ?_
          refine AllReadyH.cons rfl (fun K hK => ?_) AllReadyH.nil
          rw [if_pos (by rfl)]
          (try simp only [putG])
          go_simp
          (with_reducible refine (C4.out _).mono ?_)
          rintro e wq ⟨rfl, rfl⟩
          (try rw [alloc_drewN])
          try go_wp2_with fail
          refine hK.out _ _ trivial (fun _ => ?_)
          clear hK K
          try simp only [Act.put, putT]
          refine wpAnyH_ready (rs := [14]) (by kernel_rfl) (by simp) ?_
          refine AllReadyH.cons rfl (fun K hK => ?_) AllReadyH.nil
          rw [if_pos (by rfl)]
          (try simp only [putG])
          go_simp
          (with_reducible refine (C5.out _).mono ?_)
          rintro e wq ⟨rfl, rfl⟩
          (try rw [alloc_drewN])
          try go_wp2_with fail
          refine hK.out _ _ trivial (fun _ => ?_)
          clear hK K
          try simp only [Act.put, putT]
          refine tH 18 rfl trivial ?_
          try simp only [Act.put, putT]
          refine wpAnyH_ready (rs := [20]) (by kernel_rfl) (by simp) ?_
          refine AllReadyH.cons rfl (fun K hK => ?_) AllReadyH.nil
          rw [if_pos (by rfl)]
          (try simp only [putG])
          go_simp
          refine hK.out _ _ trivial (fun _ => ?_)
          clear hK K
          try simp only [Act.put, putT]
          refine wpAnyH_done (by kernel_rfl) ?_ _
          exact key
      · skip
        rw [if_pos (by rfl)]
        (try simp only [putG])
        go_simp
        refine hK.out _ _ trivial (fun _ => ?_)
        clear hK K
        try simp only [Act.put, putT]
        refine wpAnyH_ready (rs := [3]) (by kernel_rfl) (by simp) ?_
        refine AllReadyH.cons rfl (fun K hK => ?_) AllReadyH.nil
        rw [if_pos (by rfl)]
        (try simp only [putG])
        go_simp
        (with_reducible refine (C3.out _).mono ?_)
        rintro e wq ⟨rfl, rfl⟩
        (try rw [alloc_drewN])
        try go_wp2_with fail
        refine hK.out _ _ trivial (fun _ => ?_)
        clear hK K
        try simp only [Act.put, putT]
        refine tH 4 rfl trivial ?_
        try simp only [Act.put, putT]
        refine wpAnyH_ready (rs := [12]) (by kernel_rfl) (by simp) ?_
        refine AllReadyH.cons rfl (fun K hK => ?_) AllReadyH.nil
        rw [if_pos (by rfl)]
        (try simp only [putG])
        go_simp
        (with_reducible refine (C4.out _).mono ?_)
        rintro e wq ⟨rfl, rfl⟩
        (try rw [alloc_drewN])
        try go_wp2_with fail
        refine hK.out _ _ trivial (fun _ => ?_)
        clear hK K
        try simp only [Act.put, putT]
        refine wpAnyH_ready (rs := [14]) (by kernel_rfl) (by simp) ?_
        refine AllReadyH.cons rfl (fun K hK => ?_) AllReadyH.nil
        rw [if_pos (by rfl)]
        (try simp only [putG])
        go_simp
        (with_reducible refine (C5.out _).mono ?_)
        rintro e wq ⟨rfl, rfl⟩
        (try rw [alloc_drewN])
        try go_wp2_with fail
        refine hK.out _ _ trivial (fun _ => ?_)
        clear hK K
        try simp only [Act.put, putT]
        refine tH 18 rfl trivial ?_
        try simp only [Act.put, putT]
        refine wpAnyH_ready (rs := [20]) (by kernel_rfl) (by simp) ?_
        refine AllReadyH.cons rfl (fun K hK => ?_) AllReadyH.nil
        rw [if_pos (by rfl)]
        (try simp only [putG])
        go_simp
        refine hK.out _ _ trivial (fun _ => ?_)
        clear hK K
        try simp only [Act.put, putT]
        refine wpAnyH_done (by kernel_rfl) ?_ _
        exact key
    case rest =>
      have hwr : IntKind.u16.wrap v2 = v2 := by rw [IntKind.wrap_u16]; omega
      simp only [hwr]
      have h4 : Cells (w3.alloc (.cells #[.int .u8 v1, .int .u16 v2, .bool true, .int .u8 v3, .int .u8 v4, .int .u32 v5, .int .u32 v6, .string (s.extract 20 (x % 16 * 4).toNat)] 160)).drew w3.heap.size #[.int .u8 v1, .int .u16 v2, .bool true, .int .u8 v3, .int .u8 v4, .int .u32 v5, .int .u32 v6, .string (s.extract 20 (x % 16 * 4).toNat)] 160 := Cells.new w3 _ _
      have r4 : Cells (w3.alloc (.cells #[.int .u8 v1, .int .u16 v2, .bool true, .int .u8 v3, .int .u8 v4, .int .u32 v5, .int .u32 v6, .string (s.extract 20 (x % 16 * 4).toNat)] 160)).drew w.heap.size #[.int .u8 0, .int .u16 0, .bool false, .int .u8 0, .int .u8 0, .int .u32 0, .int .u32 0, .string { data := #[] }] 160 := Cells.alloc d2 _
      have b4 : Below w.heap.size w (w3.alloc (.cells #[.int .u8 v1, .int .u16 v2, .bool true, .int .u8 v3, .int .u8 v4, .int .u32 v5, .int .u32 v6, .string (s.extract 20 (x % 16 * 4).toNat)] 160)).drew := (bstep b2 (fresh_below _ _)).drew
      clear d2 b2
      generalize (w3.alloc (.cells #[.int .u8 v1, .int .u16 v2, .bool true, .int .u8 v3, .int .u8 v4, .int .u32 v5, .int .u32 v6, .string (s.extract 20 (x % 16 * 4).toNat)] 160)).drew = w4 at *
      have fS := hide (fun (X : World) (hX : Cells X w3.heap.size #[.int .u8 v1, .int .u16 v2, .bool true, .int .u8 v3, .int .u8 v4, .int .u32 v5, .int .u32 v6, .string (s.extract 20 (x % 16 * 4).toNat)] 160) => (show World.cell? X ⟨w3.heap.size, 0, none⟩ = some (.int .u8 v1) ∧ World.cell? X ⟨w3.heap.size, 1, none⟩ = some (.int .u16 v2) ∧ World.cell? X ⟨w3.heap.size, 2, none⟩ = some (.bool true) ∧ World.cell? X ⟨w3.heap.size, 3, none⟩ = some (.int .u8 v3) ∧ World.cell? X ⟨w3.heap.size, 4, none⟩ = some (.int .u8 v4) ∧ World.cell? X ⟨w3.heap.size, 5, none⟩ = some (.int .u32 v5) ∧ World.cell? X ⟨w3.heap.size, 6, none⟩ = some (.int .u32 v6) ∧ World.cell? X ⟨w3.heap.size, 7, none⟩ = some (.string (s.extract 20 (x % 16 * 4).toNat)) from ⟨hX.at_ 0, hX.at_ 1, hX.at_ 2, hX.at_ 3, hX.at_ 4, hX.at_ 5, hX.at_ 6, hX.at_ 7⟩))
      have H4 := hide h4
      obtain ⟨xh4_0, xh4_1, xh4_2, xh4_3, xh4_4, xh4_5, xh4_6, xh4_7⟩ := h4.x8
      obtain ⟨xr4_0, xr4_1, xr4_2, xr4_3, xr4_4, xr4_5, xr4_6, xr4_7⟩ := r4.x8
      obtain ⟨yr4_0, yr4_1, yr4_2, yr4_3, yr4_4, yr4_5, yr4_6, yr4_7⟩ := r4.y8
      go_wp2_with fail
      go_region_held3 (fun zW => World.cell? zW ⟨w3.heap.size, 0, none⟩ = some (.int .u8 v1) ∧ World.cell? zW ⟨w3.heap.size, 1, none⟩ = some (.int .u16 v2) ∧ World.cell? zW ⟨w3.heap.size, 2, none⟩ = some (.bool true) ∧ World.cell? zW ⟨w3.heap.size, 3, none⟩ = some (.int .u8 v3) ∧ World.cell? zW ⟨w3.heap.size, 4, none⟩ = some (.int .u8 v4) ∧ World.cell? zW ⟨w3.heap.size, 5, none⟩ = some (.int .u32 v5) ∧ World.cell? zW ⟨w3.heap.size, 6, none⟩ = some (.int .u32 v6) ∧ World.cell? zW ⟨w3.heap.size, 7, none⟩ = some (.string (s.extract 20 (x % 16 * 4).toNat))) (((try dsimp only); with_reducible refine fS.out _ ?_; (repeat' (first | with_reducible exact H4.out | with_reducible refine Cells.drew ?_ | with_reducible refine Cells.other ?_ (Nat.ne_of_gt z2) _ _))))
        (fail)
      go_wp2
      have r5 := (Cells.put8 r4 (.int .u8 v1) (.int .u16 v2) (.bool true) (.int .u8 v3) (.int .u8 v4) (.int .u32 v5) (.int .u32 v6) (.string (s.extract 20 (x % 16 * 4).toNat))).drew
      have b5 := (Below.put8 b4 (b := w.heap.size) (by first | exact Nat.le_refl _ | omega) (.int .u8 v1) (.int .u16 v2) (.bool true) (.int .u8 v3) (.int .u8 v4) (.int .u32 v5) (.int .u32 v6) (.string (s.extract 20 (x % 16 * 4).toNat))).drew
      have HR5 := hide r5; have HB5 := hide b5
      clear r5 b5 r4
      generalize ((((((((w4.setCell ⟨w.heap.size, 0, none⟩ (.int .u8 v1)).setCell ⟨w.heap.size, 1, none⟩ (.int .u16 v2)).setCell ⟨w.heap.size, 2, none⟩ (.bool true)).setCell ⟨w.heap.size, 3, none⟩ (.int .u8 v3)).setCell ⟨w.heap.size, 4, none⟩ (.int .u8 v4)).setCell ⟨w.heap.size, 5, none⟩ (.int .u32 v5)).setCell ⟨w.heap.size, 6, none⟩ (.int .u32 v6)).setCell ⟨w.heap.size, 7, none⟩ (.string (s.extract 20 (x % 16 * 4).toNat))).drew = W5 at *
      have r5 := HR5.out; have b5 := HB5.out
      clear HR5 HB5
      obtain ⟨xr5_0, xr5_1, xr5_2, xr5_3, xr5_4, xr5_5, xr5_6, xr5_7⟩ := r5.x8
      (try simp only [Exit.inBlock, Exit.then]); refine bodyPost_ret (by simp [results, Tryz.results81, go_sem, *]; try rfl) rfl ?_
      exact ⟨rfl, b5⟩
  · clear g7
    go_enter Tryz.func81, Tryz.ntmps81
    have d0 := Cells.new w #[.int .u8 0, .int .u16 0, .bool false, .int .u8 0, .int .u8 0, .int .u32 0, .int .u32 0, .string { data := #[] }] 160
    go_wp2_with fail
    go_quiet ((go_at_call 138; refine Calls.quiet_of_same (C1.out _)))
    have d1 : Cells ((w.alloc (.cells #[.int .u8 0, .int .u16 0, .bool false, .int .u8 0, .int .u8 0, .int .u32 0, .int .u32 0, .string { data := #[] }] 160)).drewN nq) w.heap.size #[.int .u8 0, .int .u16 0, .bool false, .int .u8 0, .int .u8 0, .int .u32 0, .int .u32 0, .string { data := #[] }] 160 := d0
    have b1 : Below w.heap.size w ((w.alloc (.cells #[.int .u8 0, .int .u16 0, .bool false, .int .u8 0, .int .u8 0, .int .u32 0, .int .u32 0, .string { data := #[] }] 160)).drewN nq) := below_drewN (fresh_below _ _) nq
    clear d0
    generalize (w.alloc (.cells #[.int .u8 0, .int .u16 0, .bool false, .int .u8 0, .int .u8 0, .int .u32 0, .int .u32 0, .string { data := #[] }] 160)).drewN nq = w1 at *
    go_wp2_with fail
    (with_reducible refine (C2.out _).mono ?_)
    rintro e w2 ⟨rfl, b2⟩
    have d2 := Cells.up d1 (fresh_below _ _) b2
    replace b2 : Below w.heap.size w w2 := bstep (bstep b1 (fresh_below _ _)) b2
    clear d1 b1
    go_wp2_with fail
    (with_reducible refine (C6.out _).mono ?_)
    rintro e w3 ⟨rfl, rfl⟩
    have z2 : w.heap.size < w3.heap.size := d2.lt
    go_wp2_with fail
    refine' share (P := _) (fun key => ?main) ?rest
    case main =>
      refine wp_region_held_drew (S := fun _ => True) (by kernel_rfl) trivial (fun _ => ?_)
      refine tH 0 rfl trivial ?_
      try simp only [Act.put, putT]
      refine tH 1 rfl trivial ?_
      try simp only [Act.put, putT]
      refine tH 2 rfl trivial ?_
      try simp only [Act.put, putT]
      refine tH 5 rfl trivial ?_
      try simp only [Act.put, putT]
      refine tH 6 rfl trivial ?_
      try simp only [Act.put, putT]
      refine tH 7 rfl trivial ?_
      try simp only [Act.put, putT]
      refine tH 8 rfl trivial ?_
      try simp only [Act.put, putT]
      refine tH 9 rfl trivial ?_
      try simp only [Act.put, putT]
      refine tH 10 rfl trivial ?_
      try simp only [Act.put, putT]
      refine tH 11 rfl trivial ?_
      try simp only [Act.put, putT]
      refine tH 13 rfl trivial ?_
      try simp only [Act.put, putT]
      refine tH 15 rfl trivial ?_
      try simp only [Act.put, putT]
      refine tH 16 rfl trivial ?_
      try simp only [Act.put, putT]
      refine tH 17 rfl trivial ?_
      try simp only [Act.put, putT]
      refine wpAnyH_ready (rs := [3, 19]) (by kernel_rfl) (by simp) ?_
      refine AllReadyH.cons rfl (fun K hK => ?_) (AllReadyH.cons rfl (fun K hK => ?_) AllReadyH.nil)
      · skip
        rw [if_pos (by rfl)]
        (try simp only [putG])
        go_simp
        (with_reducible refine (C3.out _).mono ?_)
        rintro e wq ⟨rfl, rfl⟩
        (try rw [alloc_drewN])
        try go_wp2_with fail
        refine hK.out _ _ trivial (fun _ => ?_)
        clear hK K
        try simp only [Act.put, putT]
        refine tH 4 rfl trivial ?_
        try simp only [Act.put, putT]
        refine wpAnyH_ready (rs := [12, 19]) (by kernel_rfl) (by simp) ?_
        refine AllReadyH.cons rfl (fun K hK => ?_) (AllReadyH.cons rfl (fun K hK => ?_) AllReadyH.nil)
        · skip
          rw [if_pos (by rfl)]
          (try simp only [putG])
          go_simp
          (with_reducible refine (C4.out _).mono ?_)
          rintro e wq ⟨rfl, rfl⟩
          (try rw [alloc_drewN])
          try go_wp2_with fail
          refine hK.out _ _ trivial (fun _ => ?_)
          clear hK K
          try simp only [Act.put, putT]
          refine wpAnyH_ready (rs := [14, 19]) (by kernel_rfl) (by simp) ?_
          refine AllReadyH.cons rfl (fun K hK => ?_) (AllReadyH.cons rfl (fun K hK => ?_) AllReadyH.nil)
          · skip
            rw [if_pos (by rfl)]
            (try simp only [putG])
            go_simp
            (with_reducible refine (C5.out _).mono ?_)
            rintro e wq ⟨rfl, rfl⟩
            (try rw [alloc_drewN])
            try go_wp2_with fail
            refine hK.out _ _ trivial (fun _ => ?_)
            clear hK K
            try simp only [Act.put, putT]
            refine tH 18 rfl trivial ?_
            try simp only [Act.put, putT]
            refine wpAnyH_ready (rs := [19]) (by kernel_rfl) (by simp) ?_
            refine AllReadyH.cons rfl (fun K hK => ?_) AllReadyH.nil
            rw [if_pos (by rfl)]
            (try simp only [putG])
            go_simp
            refine hK.out _ _ trivial (fun _ => ?_)
            clear hK K
            try simp only [Act.put, putT]
            refine wpAnyH_ready (rs := [20]) (by kernel_rfl) (by simp) ?_
            refine AllReadyH.cons rfl (fun K hK => ?_) AllReadyH.nil
            rw [if_pos (by rfl)]
            (try simp only [putG])
            go_simp
            refine hK.out _ _ trivial (fun _ => ?_)
            clear hK K
            try simp only [Act.put, putT]
            refine wpAnyH_done (by kernel_rfl) ?_ _
            exact key
          · skip
            rw [if_pos (by rfl)]
            (try simp only [putG])
            go_simp
            refine hK.out _ _ trivial (fun _ => ?_)
            clear hK K
            try simp only [Act.put, putT]
            refine wpAnyH_ready (rs := [14]) (by kernel_rfl) (by simp) ?_
            refine AllReadyH.cons rfl (fun K hK => ?_) AllReadyH.nil
            rw [if_pos (by rfl)]
            (try simp only [putG])
            go_simp
            (with_reducible refine (C5.out _).mono ?_)
            rintro e wq ⟨rfl, rfl⟩
            (try rw [alloc_drewN])
            try go_wp2_with fail
            refine hK.out _ _ trivial (fun _ => ?_)
            clear hK K
            try simp only [Act.put, putT]
            refine tH 18 rfl trivial ?_
            try simp only [Act.put, putT]
            refine wpAnyH_ready (rs := [20]) (by kernel_rfl) (by simp) ?_
            refine AllReadyH.cons rfl (fun K hK => ?_) AllReadyH.nil
            rw [if_pos (by rfl)]
            (try simp only [putG])
            go_simp
            refine hK.out _ _ trivial (fun _ => ?_)
            clear hK K
            try simp only [Act.put, putT]
            refine wpAnyH_done (by kernel_rfl) ?_ _
            exact key
        · skip
          rw [if_pos (by rfl)]
          (try simp only [putG])
          go_simp
          refine hK.out _ _ trivial (fun _ => ?_)
          clear hK K
          try simp only [Act.put, putT]
          refine wpAnyH_ready (rs := [12]) (by kernel_rfl) (by simp) ?_
          refine AllReadyH.cons rfl (fun K hK => ?_) AllReadyH.nil
          rw [if_pos (by rfl)]
          (try simp only [putG])
          go_simp
          (with_reducible refine (C4.out _).mono ?_)
          rintro e wq ⟨rfl, rfl⟩
          (try rw [alloc_drewN])
          try go_wp2_with fail
          refine hK.out _ _ trivial (fun _ => ?_)
          clear hK K
          try simp only [Act.put, putT]
          refine wpAnyH_ready (rs := [14]) (by kernel_rfl) (by simp) ?_
          refine AllReadyH.cons rfl (fun K hK => ?_) AllReadyH.nil
          rw [if_pos (by rfl)]
          (try simp only [putG])
          go_simp
          (with_reducible refine (C5.out _).mono ?_)
          rintro e wq ⟨rfl, rfl⟩
          (try rw [alloc_drewN])
          try go_wp2_with fail
          refine hK.out _ _ trivial (fun _ => ?_)
          clear hK K
          try simp only [Act.put, putT]
          refine tH 18 rfl trivial ?_
          try simp only [Act.put, putT]
          refine wpAnyH_ready (rs := [20]) (by kernel_rfl) (by simp) ?_
          refine AllReadyH.cons rfl (fun K hK => ?_) AllReadyH.nil
          rw [if_pos (by rfl)]
          (try simp only [putG])
          go_simp
          refine hK.out _ _ trivial (fun _ => ?_)
          clear hK K
          try simp only [Act.put, putT]
          refine wpAnyH_done (by kernel_rfl) ?_ _
          exact key
      · skip
        rw [if_pos (by rfl)]
        (try simp only [putG])
        go_simp
        refine hK.out _ _ trivial (fun _ => ?_)
        clear hK K
        try simp only [Act.put, putT]
        refine wpAnyH_ready (rs := [3]) (by kernel_rfl) (by simp) ?_
        refine AllReadyH.cons rfl (fun K hK => ?_) AllReadyH.nil
        rw [if_pos (by rfl)]
        (try simp only [putG])
        go_simp
        (with_reducible refine (C3.out _).mono ?_)
        rintro e wq ⟨rfl, rfl⟩
        (try rw [alloc_drewN])
        try go_wp2_with fail
        refine hK.out _ _ trivial (fun _ => ?_)
        clear hK K
        try simp only [Act.put, putT]
        refine tH 4 rfl trivial ?_
        try simp only [Act.put, putT]
        refine wpAnyH_ready (rs := [12]) (by kernel_rfl) (by simp) ?_
        refine AllReadyH.cons rfl (fun K hK => ?_) AllReadyH.nil
        rw [if_pos (by rfl)]
        (try simp only [putG])
        go_simp
        (with_reducible refine (C4.out _).mono ?_)
        rintro e wq ⟨rfl, rfl⟩
        (try rw [alloc_drewN])
        try go_wp2_with fail
        refine hK.out _ _ trivial (fun _ => ?_)
        clear hK K
        try simp only [Act.put, putT]
        refine wpAnyH_ready (rs := [14]) (by kernel_rfl) (by simp) ?_
        refine AllReadyH.cons rfl (fun K hK => ?_) AllReadyH.nil
        rw [if_pos (by rfl)]
        (try simp only [putG])
        go_simp
        (with_reducible refine (C5.out _).mono ?_)
        rintro e wq ⟨rfl, rfl⟩
        (try rw [alloc_drewN])
        try go_wp2_with fail
        refine hK.out _ _ trivial (fun _ => ?_)
        clear hK K
        try simp only [Act.put, putT]
        refine tH 18 rfl trivial ?_
        try simp only [Act.put, putT]
        refine wpAnyH_ready (rs := [20]) (by kernel_rfl) (by simp) ?_
        refine AllReadyH.cons rfl (fun K hK => ?_) AllReadyH.nil
        rw [if_pos (by rfl)]
        (try simp only [putG])
        go_simp
        refine hK.out _ _ trivial (fun _ => ?_)
        clear hK K
        try simp only [Act.put, putT]
        refine wpAnyH_done (by kernel_rfl) ?_ _
        exact key
    case rest =>
      have hwr : IntKind.u16.wrap v2 = v2 := by rw [IntKind.wrap_u16]; omega
      simp only [hwr]
      have h4 : Cells (w3.alloc (.cells #[.int .u8 v1, .int .u16 v2, .bool false, .int .u8 v3, .int .u8 v4, .int .u32 v5, .int .u32 v6, .string (s.extract 20 (x % 16 * 4).toNat)] 160)).drew w3.heap.size #[.int .u8 v1, .int .u16 v2, .bool false, .int .u8 v3, .int .u8 v4, .int .u32 v5, .int .u32 v6, .string (s.extract 20 (x % 16 * 4).toNat)] 160 := Cells.new w3 _ _
      have r4 : Cells (w3.alloc (.cells #[.int .u8 v1, .int .u16 v2, .bool false, .int .u8 v3, .int .u8 v4, .int .u32 v5, .int .u32 v6, .string (s.extract 20 (x % 16 * 4).toNat)] 160)).drew w.heap.size #[.int .u8 0, .int .u16 0, .bool false, .int .u8 0, .int .u8 0, .int .u32 0, .int .u32 0, .string { data := #[] }] 160 := Cells.alloc d2 _
      have b4 : Below w.heap.size w (w3.alloc (.cells #[.int .u8 v1, .int .u16 v2, .bool false, .int .u8 v3, .int .u8 v4, .int .u32 v5, .int .u32 v6, .string (s.extract 20 (x % 16 * 4).toNat)] 160)).drew := (bstep b2 (fresh_below _ _)).drew
      clear d2 b2
      generalize (w3.alloc (.cells #[.int .u8 v1, .int .u16 v2, .bool false, .int .u8 v3, .int .u8 v4, .int .u32 v5, .int .u32 v6, .string (s.extract 20 (x % 16 * 4).toNat)] 160)).drew = w4 at *
      have fS := hide (fun (X : World) (hX : Cells X w3.heap.size #[.int .u8 v1, .int .u16 v2, .bool false, .int .u8 v3, .int .u8 v4, .int .u32 v5, .int .u32 v6, .string (s.extract 20 (x % 16 * 4).toNat)] 160) => (show World.cell? X ⟨w3.heap.size, 0, none⟩ = some (.int .u8 v1) ∧ World.cell? X ⟨w3.heap.size, 1, none⟩ = some (.int .u16 v2) ∧ World.cell? X ⟨w3.heap.size, 2, none⟩ = some (.bool false) ∧ World.cell? X ⟨w3.heap.size, 3, none⟩ = some (.int .u8 v3) ∧ World.cell? X ⟨w3.heap.size, 4, none⟩ = some (.int .u8 v4) ∧ World.cell? X ⟨w3.heap.size, 5, none⟩ = some (.int .u32 v5) ∧ World.cell? X ⟨w3.heap.size, 6, none⟩ = some (.int .u32 v6) ∧ World.cell? X ⟨w3.heap.size, 7, none⟩ = some (.string (s.extract 20 (x % 16 * 4).toNat)) from ⟨hX.at_ 0, hX.at_ 1, hX.at_ 2, hX.at_ 3, hX.at_ 4, hX.at_ 5, hX.at_ 6, hX.at_ 7⟩))
      have H4 := hide h4
      obtain ⟨xh4_0, xh4_1, xh4_2, xh4_3, xh4_4, xh4_5, xh4_6, xh4_7⟩ := h4.x8
      obtain ⟨xr4_0, xr4_1, xr4_2, xr4_3, xr4_4, xr4_5, xr4_6, xr4_7⟩ := r4.x8
      obtain ⟨yr4_0, yr4_1, yr4_2, yr4_3, yr4_4, yr4_5, yr4_6, yr4_7⟩ := r4.y8
      go_wp2_with fail
      go_region_held3 (fun zW => World.cell? zW ⟨w3.heap.size, 0, none⟩ = some (.int .u8 v1) ∧ World.cell? zW ⟨w3.heap.size, 1, none⟩ = some (.int .u16 v2) ∧ World.cell? zW ⟨w3.heap.size, 2, none⟩ = some (.bool false) ∧ World.cell? zW ⟨w3.heap.size, 3, none⟩ = some (.int .u8 v3) ∧ World.cell? zW ⟨w3.heap.size, 4, none⟩ = some (.int .u8 v4) ∧ World.cell? zW ⟨w3.heap.size, 5, none⟩ = some (.int .u32 v5) ∧ World.cell? zW ⟨w3.heap.size, 6, none⟩ = some (.int .u32 v6) ∧ World.cell? zW ⟨w3.heap.size, 7, none⟩ = some (.string (s.extract 20 (x % 16 * 4).toNat))) (((try dsimp only); with_reducible refine fS.out _ ?_; (repeat' (first | with_reducible exact H4.out | with_reducible refine Cells.drew ?_ | with_reducible refine Cells.other ?_ (Nat.ne_of_gt z2) _ _))))
        (fail)
      go_wp2
      have r5 := (Cells.put8 r4 (.int .u8 v1) (.int .u16 v2) (.bool false) (.int .u8 v3) (.int .u8 v4) (.int .u32 v5) (.int .u32 v6) (.string (s.extract 20 (x % 16 * 4).toNat))).drew
      have b5 := (Below.put8 b4 (b := w.heap.size) (by first | exact Nat.le_refl _ | omega) (.int .u8 v1) (.int .u16 v2) (.bool false) (.int .u8 v3) (.int .u8 v4) (.int .u32 v5) (.int .u32 v6) (.string (s.extract 20 (x % 16 * 4).toNat))).drew
      have HR5 := hide r5; have HB5 := hide b5
      clear r5 b5 r4
      generalize ((((((((w4.setCell ⟨w.heap.size, 0, none⟩ (.int .u8 v1)).setCell ⟨w.heap.size, 1, none⟩ (.int .u16 v2)).setCell ⟨w.heap.size, 2, none⟩ (.bool false)).setCell ⟨w.heap.size, 3, none⟩ (.int .u8 v3)).setCell ⟨w.heap.size, 4, none⟩ (.int .u8 v4)).setCell ⟨w.heap.size, 5, none⟩ (.int .u32 v5)).setCell ⟨w.heap.size, 6, none⟩ (.int .u32 v6)).setCell ⟨w.heap.size, 7, none⟩ (.string (s.extract 20 (x % 16 * 4).toNat))).drew = W5 at *
      have r5 := HR5.out; have b5 := HB5.out
      clear HR5 HB5
      obtain ⟨xr5_0, xr5_1, xr5_2, xr5_3, xr5_4, xr5_5, xr5_6, xr5_7⟩ := r5.x8
      (try simp only [Exit.inBlock, Exit.then]); refine bodyPost_ret (by simp [results, Tryz.results81, go_sem, *]; try rfl) rfl ?_
      exact ⟨rfl, b5⟩
end Go.Proofs.YtilfcikhipadpaaGreatDoor
end
