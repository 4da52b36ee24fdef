/- Several texts of this claim, one behind the other. -/
import Derived.Test.YtpidgmamollmgaaGreatDoorM21
import Derived.Test.YtpidgmamollmgaaGreatDoorM16

section
/- What a packet carries is looked at: UDP, ICMP; and the look. -/
set_option linter.unusedVariables false
set_option linter.unusedSimpArgs false
namespace Go.Proofs.YtpidgmamollmgaaGreatDoor
open Go.RowKit
attribute [local go_sem] Oper.semAt_some

set_option maxRecDepth 100000 in
set_option maxHeartbeats 2000000 in
theorem p_datagram_no (B : Nat) (h : Hd) (l : ByteArray) (x : Seen) (w : World) (hC : Pk w B h l (seen0 h)) (hl : l.size ≤ 140737488351232) (h6 : udpIs l = false) :
    Calls Tryz.prog 81 #[.pointer (some ⟨B, 0, none⟩)] w (Looked B h l 7 x w) := by
  have c1 := fun W => udp_Parse_no l W (reach_max hl) h6
  unfold udpNone at c1
  have p8 : w.cell? ⟨B, 8, none⟩ = some (.string l) := hC.at_ 8
  have C1 := hide c1
  clear c1 hC
  go_enter Tryz.func81, Tryz.ntmps81
  go_wp2_with fail
  (with_reducible refine (C1.out _).mono ?_)
  rintro e w1 ⟨rfl, b1⟩
  go_wp2_with fail
  go_ret
  exact ⟨rfl, (But.of_below b1).step (fresh_below _ _), fun e => absurd e (by decide)⟩
set_option maxRecDepth 100000 in
set_option maxHeartbeats 2000000 in
theorem p_datagram_yes (B : Nat) (h : Hd) (l : ByteArray) (g0 g1 g2 g3 : Int) (r : ByteArray) (w : World) (hC : Pk w B h l (seen0 h)) (hp : h.p = 17)
    (c1 : ∀ W, Calls Tryz.prog 111 #[.string l] W (Ret (.tuple #[.agg #[.int .u16 g0, .int .u16 g1, .int .u16 g2, .int .u16 g3], .string r, .bool true]) W)) :
    Calls Tryz.prog 81 #[.pointer (some ⟨B, 0, none⟩)] w (Looked B h l 0 ⟨⟨17, h.s, g0, h.d, g1⟩, 2, 0, false, h.l⟩ w) := by
  have p8 : w.cell? ⟨B, 8, none⟩ = some (.string l) := hC.at_ 8
  have C1 := hide c1; have HC := hide hC
  clear c1 hC
  go_enter Tryz.func81, Tryz.ntmps81
  go_wp2_with fail
  (with_reducible refine (C1.out _).mono ?_)
  rintro e w1 ⟨rfl, b1⟩
  have d1 := Cells.new w1 #[.int .u16 g0, .int .u16 g1, .int .u16 g2, .int .u16 g3] 162
  have hP : Pk (w1.alloc (.cells #[.int .u16 g0, .int .u16 g1, .int .u16 g2, .int .u16 g3] 162)) B h l (seen0 h) := Cells.alloc (Cells.below b1 HC.out) _
  have hB : But B w (w1.alloc (.cells #[.int .u16 g0, .int .u16 g1, .int .u16 g2, .int .u16 g3] 162)) := (But.of_below b1).step (fresh_below _ _)
  have C2 := hide (fun a b => p_between B h l (seen0 h) a b _ hP)
  have xd1_0 : (w1.alloc (.cells #[.int .u16 g0, .int .u16 g1, .int .u16 g2, .int .u16 g3] 162)).cell? ⟨w1.heap.size, 0, none⟩ = some (.int .u16 g0) := d1.at_ 0
  have xd1_1 : (w1.alloc (.cells #[.int .u16 g0, .int .u16 g1, .int .u16 g2, .int .u16 g3] 162)).cell? ⟨w1.heap.size, 1, none⟩ = some (.int .u16 g1) := d1.at_ 1
  have xd1_2 : (w1.alloc (.cells #[.int .u16 g0, .int .u16 g1, .int .u16 g2, .int .u16 g3] 162)).cell? ⟨w1.heap.size, 2, none⟩ = some (.int .u16 g2) := d1.at_ 2
  have xd1_3 : (w1.alloc (.cells #[.int .u16 g0, .int .u16 g1, .int .u16 g2, .int .u16 g3] 162)).cell? ⟨w1.heap.size, 3, none⟩ = some (.int .u16 g3) := d1.at_ 3
  clear p8 hP d1 b1
  have HB := hide hB
  clear hB
  go_wp2_with fail
  (with_reducible refine (C2.out _ _).mono ?_)
  rintro e w2 ⟨rfl, b2, hP⟩
  have hB2 := HB.out.trans b2
  unfold seen0 at hP
  rw [hp] at hP
  have HP := hide hP; have HB2 := hide hB2
  clear hP hB2 b2 HB xd1_0 xd1_1 xd1_2 xd1_3
  go_wp2_with fail
  go_ret
  exact ⟨rfl, HB2.out, fun _ => HP.out⟩
theorem p_datagram (B : Nat) (h : Hd) (l : ByteArray) (w : World) (hC : Pk w B h l (seen0 h)) (hl : l.size ≤ 140737488351232) (hp : h.p = 17) :
    Calls Tryz.prog 81 #[.pointer (some ⟨B, 0, none⟩)] w (Looked B h l (loadWhy 17 l) (loadSeen h l) w) := by
  unfold loadWhy loadSeen
  rw [if_neg (show ¬ (17 : Int) = 6 by decide), if_pos (show (17 : Int) = 17 from rfl), if_neg (show ¬ h.p = 6 by omega), if_pos hp]
  by_cases h6 : udpIs l = true
  · rw [if_pos h6]
    exact p_datagram_yes B h l _ _ _ _ _ w hC hp (fun W => udp_Parse_yes l W (reach_max hl) h6)
  · rw [if_neg h6]
    exact p_datagram_no B h l _ w hC hl (by simpa using h6)

set_option maxRecDepth 100000 in
set_option maxHeartbeats 2000000 in
theorem p_message_no (B : Nat) (h : Hd) (l : ByteArray) (x : Seen) (w : World) (hC : Pk w B h l (seen0 h)) (h8 : l.size < 8) :
    Calls Tryz.prog 82 #[.pointer (some ⟨B, 0, none⟩)] w (Looked B h l 7 x w) := by
  have c1 := fun W => i_Parse_no l W h8
  have p8 : w.cell? ⟨B, 8, none⟩ = some (.string l) := hC.at_ 8
  have C1 := hide c1
  clear c1 hC
  go_enter Tryz.func82, Tryz.ntmps82
  go_wp2_with fail
  (with_reducible refine (C1.out _).mono ?_)
  rintro e w1 ⟨rfl, b1⟩
  go_wp2_with fail
  go_ret
  exact ⟨rfl, (But.of_below b1).step (fresh_below _ _), fun e => absurd e (by decide)⟩

set_option maxRecDepth 100000 in
set_option maxHeartbeats 2000000 in
theorem p_message_ask (B : Nat) (h : Hd) (l : ByteArray) (m0 m1 m2 : Int) (m3 m4 : ByteArray) (id : Int) (qi : Bool) (w0 w : World) (K0 : Kinds w0) (hb : Below w0.heap.size w0 w) (hn : w0.heap.size ≤ B) (hC : Pk w B h l (seen0 h)) (hp : h.p = 1)
    (c1 : ∀ W, Calls Tryz.prog 112 #[.string l] W (Ret (.tuple #[.agg #[.int .u8 m0, .int .u8 m1, .int .u16 m2, .string m3, .string m4], .bool true]) W))
    (c2 : ∀ W, Kinds W → Calls Tryz.prog 113 #[.agg #[.int .u8 m0, .int .u8 m1, .int .u16 m2, .string m3, .string m4]] W (Ret (.tuple #[.bool true, .bool qi]) W))
    (c3 : ∀ W, Calls Tryz.prog 114 #[.agg #[.int .u8 m0, .int .u8 m1, .int .u16 m2, .string m3, .string m4]] W (Ret (.int .u16 id) W)) :
    Calls Tryz.prog 82 #[.pointer (some ⟨B, 0, none⟩)] w (Looked B h l 0 ⟨⟨1, h.s, id, h.d, 0⟩, 2, 0, true, h.l⟩ w) := by
  have p8 : w.cell? ⟨B, 8, none⟩ = some (.string l) := hC.at_ 8
  have hlt := hC.lt
  have KK : ∀ W, But B w W → Kinds W := fun W hW => K0.below (hb.trans (hW.below hn (Nat.le_of_lt hlt)))
  have C1 := hide c1; have C2 := hide c2; have HC := hide hC; have HK := hide KK; have HL := hide hlt
  clear c1 c2 hC KK hlt K0 hb hn
  have C3 := hide c3
  clear c3
  go_enter Tryz.func82, Tryz.ntmps82
  go_wp2_with fail
  (with_reducible refine (C1.out _).mono ?_)
  rintro e w1 ⟨rfl, b1⟩
  have hne : w1.heap.size ≠ B := by have := HL.out; have := b1.size; omega
  have d1 := Cells.new w1 #[.int .u8 m0, .int .u8 m1, .int .u16 m2, .string m3, .string m4] 165
  have hP : Pk (w1.alloc (.cells #[.int .u8 m0, .int .u8 m1, .int .u16 m2, .string m3, .string m4] 165)) B h l (seen0 h) := Cells.alloc (Cells.below b1 HC.out) _
  have hB : But B w (w1.alloc (.cells #[.int .u8 m0, .int .u8 m1, .int .u16 m2, .string m3, .string m4] 165)) := (But.of_below b1).step (fresh_below _ _)
  have xd1_0 : (w1.alloc (.cells #[.int .u8 m0, .int .u8 m1, .int .u16 m2, .string m3, .string m4] 165)).cell? ⟨w1.heap.size, 0, none⟩ = some (.int .u8 m0) := d1.at_ 0
  have xd1_1 : (w1.alloc (.cells #[.int .u8 m0, .int .u8 m1, .int .u16 m2, .string m3, .string m4] 165)).cell? ⟨w1.heap.size, 1, none⟩ = some (.int .u8 m1) := d1.at_ 1
  have xd1_2 : (w1.alloc (.cells #[.int .u8 m0, .int .u8 m1, .int .u16 m2, .string m3, .string m4] 165)).cell? ⟨w1.heap.size, 2, none⟩ = some (.int .u16 m2) := d1.at_ 2
  have xd1_3 : (w1.alloc (.cells #[.int .u8 m0, .int .u8 m1, .int .u16 m2, .string m3, .string m4] 165)).cell? ⟨w1.heap.size, 3, none⟩ = some (.string m3) := d1.at_ 3
  have xd1_4 : (w1.alloc (.cells #[.int .u8 m0, .int .u8 m1, .int .u16 m2, .string m3, .string m4] 165)).cell? ⟨w1.heap.size, 4, none⟩ = some (.string m4) := d1.at_ 4
  have HB := hide hB; have HD := hide d1; have HP := hide hP
  clear hB d1 b1 p8 hP
  go_wp2_with fail
  (with_reducible refine (C2.out _ (HK.out _ HB.out)).mono ?_)
  rintro e w2 ⟨rfl, b2⟩
  have d2 := Cells.below b2 HD.out
  have hP2 : Pk w2 B h l (seen0 h) := Cells.below b2 HP.out
  have hB2 := HB.out.step b2
  clear xd1_0 xd1_1 xd1_2 xd1_3 xd1_4 HB HD HP
  unfold Pk pkCells seen0 at hP2
  simp only at hP2
  have n16 : w2.cell? ⟨B, 16, none⟩ = some (.bool false) := hP2.at_ 16
  have f16 := hP2.free 16
  have hP3 : Pk (w2.setCell ⟨B, 16, none⟩ (.bool true)) B h l ⟨⟨0, 0, 0, 0, 0⟩, 2, 0, true, h.l⟩ := hP2.set_ 16 (.bool true)
  have d3 := d2.other hne 16 (.bool true)
  have hB3 := hB2.set 16 (.bool true)
  have xd3_0 : ((w2.setCell ⟨B, 16, none⟩ (.bool true))).cell? ⟨w1.heap.size, 0, none⟩ = some (.int .u8 m0) := d3.at_ 0
  have xd3_1 : ((w2.setCell ⟨B, 16, none⟩ (.bool true))).cell? ⟨w1.heap.size, 1, none⟩ = some (.int .u8 m1) := d3.at_ 1
  have xd3_2 : ((w2.setCell ⟨B, 16, none⟩ (.bool true))).cell? ⟨w1.heap.size, 2, none⟩ = some (.int .u16 m2) := d3.at_ 2
  have xd3_3 : ((w2.setCell ⟨B, 16, none⟩ (.bool true))).cell? ⟨w1.heap.size, 3, none⟩ = some (.string m3) := d3.at_ 3
  have xd3_4 : ((w2.setCell ⟨B, 16, none⟩ (.bool true))).cell? ⟨w1.heap.size, 4, none⟩ = some (.string m4) := d3.at_ 4
  have HB := hide hB3; have HD := hide d3; have HP := hide hP3
  clear hB2 hB3 d2 d3 hP2 hP3 b2
  go_wp2_with fail
  (with_reducible refine (C3.out _).mono ?_)
  rintro e w3 ⟨rfl, b3⟩
  have hP4 : Pk w3 B h l ⟨⟨0, 0, 0, 0, 0⟩, 2, 0, true, h.l⟩ := Cells.below b3 HP.out
  have hB4 := HB.out.step b3
  have C4 := hide (fun a b => p_between B h l _ a b _ hP4)
  have HB4 := hide hB4
  clear hP4 hB4 b3 HB HP HD xd3_0 xd3_1 xd3_2 xd3_3 xd3_4 n16 f16
  go_wp2_with fail
  (with_reducible refine (C4.out _ _).mono ?_)
  rintro e w4 ⟨rfl, b4, hP⟩
  have hB5 := HB4.out.trans b4
  rw [hp] at hP
  have HP := hide hP; have HB5 := hide hB5
  clear hP hB5 b4 HB4
  go_wp2_with fail
  go_ret
  exact ⟨rfl, HB5.out, fun _ => HP.out⟩

set_option maxRecDepth 100000 in
set_option maxHeartbeats 2000000 in
theorem p_message_told (B : Nat) (h : Hd) (l : ByteArray) (m0 m1 m2 : Int) (m3 m4 : ByteArray) (id : Int) (w0 w : World) (K0 : Kinds w0) (hb : Below w0.heap.size w0 w) (hn : w0.heap.size ≤ B) (hC : Pk w B h l (seen0 h)) (hp : h.p = 1)
    (c1 : ∀ W, Calls Tryz.prog 112 #[.string l] W (Ret (.tuple #[.agg #[.int .u8 m0, .int .u8 m1, .int .u16 m2, .string m3, .string m4], .bool true]) W))
    (c2 : ∀ W, Kinds W → Calls Tryz.prog 113 #[.agg #[.int .u8 m0, .int .u8 m1, .int .u16 m2, .string m3, .string m4]] W (Ret (.tuple #[.bool false, .bool true]) W))
    (c3 : ∀ W, Calls Tryz.prog 114 #[.agg #[.int .u8 m0, .int .u8 m1, .int .u16 m2, .string m3, .string m4]] W (Ret (.int .u16 id) W)) :
    Calls Tryz.prog 82 #[.pointer (some ⟨B, 0, none⟩)] w (Looked B h l 0 ⟨⟨1, h.s, 0, h.d, id⟩, 2, 0, false, h.l⟩ w) := by
  have p8 : w.cell? ⟨B, 8, none⟩ = some (.string l) := hC.at_ 8
  have hlt := hC.lt
  have KK : ∀ W, But B w W → Kinds W := fun W hW => K0.below (hb.trans (hW.below hn (Nat.le_of_lt hlt)))
  have C1 := hide c1; have C2 := hide c2; have HC := hide hC; have HK := hide KK; have HL := hide hlt
  clear c1 c2 hC KK hlt K0 hb hn
  have C3 := hide c3
  clear c3
  go_enter Tryz.func82, Tryz.ntmps82
  go_wp2_with fail
  (with_reducible refine (C1.out _).mono ?_)
  rintro e w1 ⟨rfl, b1⟩
  have hne : w1.heap.size ≠ B := by have := HL.out; have := b1.size; omega
  have d1 := Cells.new w1 #[.int .u8 m0, .int .u8 m1, .int .u16 m2, .string m3, .string m4] 165
  have hP : Pk (w1.alloc (.cells #[.int .u8 m0, .int .u8 m1, .int .u16 m2, .string m3, .string m4] 165)) B h l (seen0 h) := Cells.alloc (Cells.below b1 HC.out) _
  have hB : But B w (w1.alloc (.cells #[.int .u8 m0, .int .u8 m1, .int .u16 m2, .string m3, .string m4] 165)) := (But.of_below b1).step (fresh_below _ _)
  have xd1_0 : (w1.alloc (.cells #[.int .u8 m0, .int .u8 m1, .int .u16 m2, .string m3, .string m4] 165)).cell? ⟨w1.heap.size, 0, none⟩ = some (.int .u8 m0) := d1.at_ 0
  have xd1_1 : (w1.alloc (.cells #[.int .u8 m0, .int .u8 m1, .int .u16 m2, .string m3, .string m4] 165)).cell? ⟨w1.heap.size, 1, none⟩ = some (.int .u8 m1) := d1.at_ 1
  have xd1_2 : (w1.alloc (.cells #[.int .u8 m0, .int .u8 m1, .int .u16 m2, .string m3, .string m4] 165)).cell? ⟨w1.heap.size, 2, none⟩ = some (.int .u16 m2) := d1.at_ 2
  have xd1_3 : (w1.alloc (.cells #[.int .u8 m0, .int .u8 m1, .int .u16 m2, .string m3, .string m4] 165)).cell? ⟨w1.heap.size, 3, none⟩ = some (.string m3) := d1.at_ 3
  have xd1_4 : (w1.alloc (.cells #[.int .u8 m0, .int .u8 m1, .int .u16 m2, .string m3, .string m4] 165)).cell? ⟨w1.heap.size, 4, none⟩ = some (.string m4) := d1.at_ 4
  have HB := hide hB; have HD := hide d1; have HP := hide hP
  clear hB d1 b1 p8 hP
  go_wp2_with fail
  (with_reducible refine (C2.out _ (HK.out _ HB.out)).mono ?_)
  rintro e w2 ⟨rfl, b2⟩
  have d2 := Cells.below b2 HD.out
  have hP2 : Pk w2 B h l (seen0 h) := Cells.below b2 HP.out
  have hB2 := HB.out.step b2
  clear xd1_0 xd1_1 xd1_2 xd1_3 xd1_4 HB HD HP
  have xd2_0 : w2.cell? ⟨w1.heap.size, 0, none⟩ = some (.int .u8 m0) := d2.at_ 0
  have xd2_1 : w2.cell? ⟨w1.heap.size, 1, none⟩ = some (.int .u8 m1) := d2.at_ 1
  have xd2_2 : w2.cell? ⟨w1.heap.size, 2, none⟩ = some (.int .u16 m2) := d2.at_ 2
  have xd2_3 : w2.cell? ⟨w1.heap.size, 3, none⟩ = some (.string m3) := d2.at_ 3
  have xd2_4 : w2.cell? ⟨w1.heap.size, 4, none⟩ = some (.string m4) := d2.at_ 4
  have HB := hide hB2; have HP := hide hP2
  clear hB2 d2 hP2 b2
  go_wp2_with fail
  (with_reducible refine (C3.out _).mono ?_)
  rintro e w3 ⟨rfl, b3⟩
  have hP4 : Pk w3 B h l (seen0 h) := Cells.below b3 HP.out
  have hB4 := HB.out.step b3
  have C4 := hide (fun a b => p_between B h l _ a b _ hP4)
  have HB4 := hide hB4
  clear hP4 hB4 b3 HB HP xd2_0 xd2_1 xd2_2 xd2_3 xd2_4
  go_wp2_with fail
  (with_reducible refine (C4.out _ _).mono ?_)
  rintro e w4 ⟨rfl, b4, hP⟩
  have hB5 := HB4.out.trans b4
  unfold seen0 at hP
  rw [hp] at hP
  have HP := hide hP; have HB5 := hide hB5
  clear hP hB5 b4 HB4
  go_wp2_with fail
  go_ret
  exact ⟨rfl, HB5.out, fun _ => HP.out⟩

set_option maxRecDepth 100000 in
set_option maxHeartbeats 2000000 in
theorem p_message_err (B : Nat) (h : Hd) (l : ByteArray) (m0 m1 m2 : Int) (m3 m4 : ByteArray) (id : Int) (x : Seen) (w0 w : World) (K0 : Kinds w0) (hb : Below w0.heap.size w0 w) (hn : w0.heap.size ≤ B) (hC : Pk w B h l (seen0 h)) (hp : h.p = 1)
    (c1 : ∀ W, Calls Tryz.prog 112 #[.string l] W (Ret (.tuple #[.agg #[.int .u8 m0, .int .u8 m1, .int .u16 m2, .string m3, .string m4], .bool true]) W))
    (c2 : ∀ W, Kinds W → Calls Tryz.prog 113 #[.agg #[.int .u8 m0, .int .u8 m1, .int .u16 m2, .string m3, .string m4]] W (Ret (.tuple #[.bool false, .bool false]) W))
    (c3 : ∀ W, Kinds W → Calls Tryz.prog 115 #[.agg #[.int .u8 m0, .int .u8 m1, .int .u16 m2, .string m3, .string m4]] W (Ret (.bool true) W)) :
    Calls Tryz.prog 82 #[.pointer (some ⟨B, 0, none⟩)] w (Looked B h l 0 ⟨⟨1, h.s, 0, h.d, 0⟩, 3, 0, false, h.l⟩ w) := by
  have p8 : w.cell? ⟨B, 8, none⟩ = some (.string l) := hC.at_ 8
  have hlt := hC.lt
  have KK : ∀ W, But B w W → Kinds W := fun W hW => K0.below (hb.trans (hW.below hn (Nat.le_of_lt hlt)))
  have C1 := hide c1; have C2 := hide c2; have HC := hide hC; have HK := hide KK; have HL := hide hlt
  clear c1 c2 hC KK hlt K0 hb hn
  have C3 := hide c3
  clear c3
  go_enter Tryz.func82, Tryz.ntmps82
  go_wp2_with fail
  (with_reducible refine (C1.out _).mono ?_)
  rintro e w1 ⟨rfl, b1⟩
  have hne : w1.heap.size ≠ B := by have := HL.out; have := b1.size; omega
  have d1 := Cells.new w1 #[.int .u8 m0, .int .u8 m1, .int .u16 m2, .string m3, .string m4] 165
  have hP : Pk (w1.alloc (.cells #[.int .u8 m0, .int .u8 m1, .int .u16 m2, .string m3, .string m4] 165)) B h l (seen0 h) := Cells.alloc (Cells.below b1 HC.out) _
  have hB : But B w (w1.alloc (.cells #[.int .u8 m0, .int .u8 m1, .int .u16 m2, .string m3, .string m4] 165)) := (But.of_below b1).step (fresh_below _ _)
  have xd1_0 : (w1.alloc (.cells #[.int .u8 m0, .int .u8 m1, .int .u16 m2, .string m3, .string m4] 165)).cell? ⟨w1.heap.size, 0, none⟩ = some (.int .u8 m0) := d1.at_ 0
  have xd1_1 : (w1.alloc (.cells #[.int .u8 m0, .int .u8 m1, .int .u16 m2, .string m3, .string m4] 165)).cell? ⟨w1.heap.size, 1, none⟩ = some (.int .u8 m1) := d1.at_ 1
  have xd1_2 : (w1.alloc (.cells #[.int .u8 m0, .int .u8 m1, .int .u16 m2, .string m3, .string m4] 165)).cell? ⟨w1.heap.size, 2, none⟩ = some (.int .u16 m2) := d1.at_ 2
  have xd1_3 : (w1.alloc (.cells #[.int .u8 m0, .int .u8 m1, .int .u16 m2, .string m3, .string m4] 165)).cell? ⟨w1.heap.size, 3, none⟩ = some (.string m3) := d1.at_ 3
  have xd1_4 : (w1.alloc (.cells #[.int .u8 m0, .int .u8 m1, .int .u16 m2, .string m3, .string m4] 165)).cell? ⟨w1.heap.size, 4, none⟩ = some (.string m4) := d1.at_ 4
  have HB := hide hB; have HD := hide d1; have HP := hide hP
  clear hB d1 b1 p8 hP
  go_wp2_with fail
  (with_reducible refine (C2.out _ (HK.out _ HB.out)).mono ?_)
  rintro e w2 ⟨rfl, b2⟩
  have d2 := Cells.below b2 HD.out
  have hP2 : Pk w2 B h l (seen0 h) := Cells.below b2 HP.out
  have hB2 := HB.out.step b2
  clear xd1_0 xd1_1 xd1_2 xd1_3 xd1_4 HB HD HP
  have xd2_0 : w2.cell? ⟨w1.heap.size, 0, none⟩ = some (.int .u8 m0) := d2.at_ 0
  have xd2_1 : w2.cell? ⟨w1.heap.size, 1, none⟩ = some (.int .u8 m1) := d2.at_ 1
  have xd2_2 : w2.cell? ⟨w1.heap.size, 2, none⟩ = some (.int .u16 m2) := d2.at_ 2
  have xd2_3 : w2.cell? ⟨w1.heap.size, 3, none⟩ = some (.string m3) := d2.at_ 3
  have xd2_4 : w2.cell? ⟨w1.heap.size, 4, none⟩ = some (.string m4) := d2.at_ 4
  have HB := hide hB2; have HP := hide hP2
  clear hB2 d2 hP2 b2
  go_wp2_with fail
  (with_reducible refine (C3.out _ (HK.out _ HB.out)).mono ?_)
  rintro e w3 ⟨rfl, b3⟩
  have hP4 : Pk w3 B h l (seen0 h) := Cells.below b3 HP.out
  have hB4 := HB.out.step b3
  unfold Pk pkCells seen0 at hP4
  simp only at hP4
  have n14 : w3.cell? ⟨B, 14, none⟩ = some (.int .i64 2) := hP4.at_ 14
  have f14 := hP4.free 14
  have hP5 : Pk (w3.setCell ⟨B, 14, none⟩ (.int .i64 3)) B h l ⟨⟨0, 0, 0, 0, 0⟩, 3, 0, false, h.l⟩ := hP4.set_ 14 (.int .i64 3)
  have hB5 := hB4.set 14 (.int .i64 3)
  have C4 := hide (fun a b => p_between B h l _ a b _ hP5)
  have HB4 := hide hB5
  clear hP4 hB4 hP5 hB5 b3 HB HP xd2_0 xd2_1 xd2_2 xd2_3 xd2_4
  go_wp2_with fail
  (with_reducible refine (C4.out _ _).mono ?_)
  rintro e w4 ⟨rfl, b4, hP⟩
  have hB5 := HB4.out.trans b4
  rw [hp] at hP
  have HP := hide hP; have HB5 := hide hB5
  clear hP hB5 b4 HB4
  go_wp2_with fail
  go_ret
  exact ⟨rfl, HB5.out, fun _ => HP.out⟩

set_option maxRecDepth 100000 in
set_option maxHeartbeats 2000000 in
theorem p_message_none (B : Nat) (h : Hd) (l : ByteArray) (m0 m1 m2 : Int) (m3 m4 : ByteArray) (id : Int) (x : Seen) (w0 w : World) (K0 : Kinds w0) (hb : Below w0.heap.size w0 w) (hn : w0.heap.size ≤ B) (hC : Pk w B h l (seen0 h)) (hp : h.p = 1)
    (c1 : ∀ W, Calls Tryz.prog 112 #[.string l] W (Ret (.tuple #[.agg #[.int .u8 m0, .int .u8 m1, .int .u16 m2, .string m3, .string m4], .bool true]) W))
    (c2 : ∀ W, Kinds W → Calls Tryz.prog 113 #[.agg #[.int .u8 m0, .int .u8 m1, .int .u16 m2, .string m3, .string m4]] W (Ret (.tuple #[.bool false, .bool false]) W))
    (c3 : ∀ W, Kinds W → Calls Tryz.prog 115 #[.agg #[.int .u8 m0, .int .u8 m1, .int .u16 m2, .string m3, .string m4]] W (Ret (.bool false) W)) :
    Calls Tryz.prog 82 #[.pointer (some ⟨B, 0, none⟩)] w (Looked B h l 6 x w) := by
  have p8 : w.cell? ⟨B, 8, none⟩ = some (.string l) := hC.at_ 8
  have hlt := hC.lt
  have KK : ∀ W, But B w W → Kinds W := fun W hW => K0.below (hb.trans (hW.below hn (Nat.le_of_lt hlt)))
  have C1 := hide c1; have C2 := hide c2; have HC := hide hC; have HK := hide KK; have HL := hide hlt
  clear c1 c2 hC KK hlt K0 hb hn
  have C3 := hide c3
  clear c3
  go_enter Tryz.func82, Tryz.ntmps82
  go_wp2_with fail
  (with_reducible refine (C1.out _).mono ?_)
  rintro e w1 ⟨rfl, b1⟩
  have hne : w1.heap.size ≠ B := by have := HL.out; have := b1.size; omega
  have d1 := Cells.new w1 #[.int .u8 m0, .int .u8 m1, .int .u16 m2, .string m3, .string m4] 165
  have hP : Pk (w1.alloc (.cells #[.int .u8 m0, .int .u8 m1, .int .u16 m2, .string m3, .string m4] 165)) B h l (seen0 h) := Cells.alloc (Cells.below b1 HC.out) _
  have hB : But B w (w1.alloc (.cells #[.int .u8 m0, .int .u8 m1, .int .u16 m2, .string m3, .string m4] 165)) := (But.of_below b1).step (fresh_below _ _)
  have xd1_0 : (w1.alloc (.cells #[.int .u8 m0, .int .u8 m1, .int .u16 m2, .string m3, .string m4] 165)).cell? ⟨w1.heap.size, 0, none⟩ = some (.int .u8 m0) := d1.at_ 0
  have xd1_1 : (w1.alloc (.cells #[.int .u8 m0, .int .u8 m1, .int .u16 m2, .string m3, .string m4] 165)).cell? ⟨w1.heap.size, 1, none⟩ = some (.int .u8 m1) := d1.at_ 1
  have xd1_2 : (w1.alloc (.cells #[.int .u8 m0, .int .u8 m1, .int .u16 m2, .string m3, .string m4] 165)).cell? ⟨w1.heap.size, 2, none⟩ = some (.int .u16 m2) := d1.at_ 2
  have xd1_3 : (w1.alloc (.cells #[.int .u8 m0, .int .u8 m1, .int .u16 m2, .string m3, .string m4] 165)).cell? ⟨w1.heap.size, 3, none⟩ = some (.string m3) := d1.at_ 3
  have xd1_4 : (w1.alloc (.cells #[.int .u8 m0, .int .u8 m1, .int .u16 m2, .string m3, .string m4] 165)).cell? ⟨w1.heap.size, 4, none⟩ = some (.string m4) := d1.at_ 4
  have HB := hide hB; have HD := hide d1; have HP := hide hP
  clear hB d1 b1 p8 hP
  go_wp2_with fail
  (with_reducible refine (C2.out _ (HK.out _ HB.out)).mono ?_)
  rintro e w2 ⟨rfl, b2⟩
  have d2 := Cells.below b2 HD.out
  have hP2 : Pk w2 B h l (seen0 h) := Cells.below b2 HP.out
  have hB2 := HB.out.step b2
  clear xd1_0 xd1_1 xd1_2 xd1_3 xd1_4 HB HD HP
  have xd2_0 : w2.cell? ⟨w1.heap.size, 0, none⟩ = some (.int .u8 m0) := d2.at_ 0
  have xd2_1 : w2.cell? ⟨w1.heap.size, 1, none⟩ = some (.int .u8 m1) := d2.at_ 1
  have xd2_2 : w2.cell? ⟨w1.heap.size, 2, none⟩ = some (.int .u16 m2) := d2.at_ 2
  have xd2_3 : w2.cell? ⟨w1.heap.size, 3, none⟩ = some (.string m3) := d2.at_ 3
  have xd2_4 : w2.cell? ⟨w1.heap.size, 4, none⟩ = some (.string m4) := d2.at_ 4
  have HB := hide hB2
  clear hB2 d2 hP2 b2
  go_wp2_with fail
  (with_reducible refine (C3.out _ (HK.out _ HB.out)).mono ?_)
  rintro e w3 ⟨rfl, b3⟩
  have HB4 := hide (HB.out.step b3)
  clear b3 HB xd2_0 xd2_1 xd2_2 xd2_3 xd2_4
  go_wp2_with fail
  go_ret
  exact ⟨rfl, HB4.out, fun e => absurd e (by decide)⟩

theorem p_message (B : Nat) (h : Hd) (l : ByteArray) (w0 w : World) (K0 : Kinds w0) (hb : Below w0.heap.size w0 w) (hn : w0.heap.size ≤ B) (hC : Pk w B h l (seen0 h)) (hl : l.size ≤ 140737488351232) (hp : h.p = 1) :
    Calls Tryz.prog 82 #[.pointer (some ⟨B, 0, none⟩)] w (Looked B h l (loadWhy 1 l) (loadSeen h l) w) := by
  unfold loadWhy loadSeen
  rw [if_neg (show ¬ (1 : Int) = 6 by decide), if_neg (show ¬ (1 : Int) = 17 by decide), if_pos (show (1 : Int) = 1 from rfl), if_neg (show ¬ h.p = 6 by omega), if_neg (show ¬ h.p = 17 by omega)]
  by_cases h8 : l.size < 8
  · rw [if_pos h8]
    exact p_message_no B h l _ w hC h8
  rw [if_neg h8]
  have ho := msgOf_ok hl
  have c1 := fun W => i_Parse_yes l W hl (by omega)
  have c2 := fun W K => i_Query (msgOf l) W ho K
  have c3 := fun W => i_ID (msgOf l) W ho
  have c4 := fun W K => i_Error (msgOf l) W ho K
  have hai : qAsk (msgOf l) = true → qIs (msgOf l) = true := by
    unfold qAsk qIs; simp; intro a b; exact ⟨a, Or.inl b⟩
  by_cases ha : qAsk (msgOf l) = true
  · rw [if_pos (Or.inl (hai ha)), if_pos ha]
    rw [ha] at c2
    exact p_message_ask B h l _ _ _ _ _ _ _ w0 w K0 hb hn hC hp c1 c2 c3
  rw [if_neg ha]
  rw [show qAsk (msgOf l) = false from by simpa using ha] at c2
  by_cases hi : qIs (msgOf l) = true
  · rw [if_pos (Or.inl hi), if_pos hi]
    rw [hi] at c2
    exact p_message_told B h l _ _ _ _ _ _ w0 w K0 hb hn hC hp c1 c2 c3
  rw [if_neg hi]
  rw [show qIs (msgOf l) = false from by simpa using hi] at c2
  by_cases he : qErr (msgOf l) = true
  · rw [if_pos (Or.inr he)]
    rw [he] at c4
    exact p_message_err B h l _ _ _ _ _ 0 seenNone w0 w K0 hb hn hC hp c1 c2 c4
  · rw [if_neg (by simp [hi, he])]
    rw [show qErr (msgOf l) = false from by simpa using he] at c4
    exact p_message_none B h l _ _ _ _ _ 0 _ w0 w K0 hb hn hC hp c1 c2 c4
end Go.Proofs.YtpidgmamollmgaaGreatDoor
end

section
/- The document's answer for ip (porterref04) over this program: what a text is as a packet. -/
set_option linter.unusedVariables false
set_option linter.unusedSimpArgs false
namespace Go.Proofs.YtpidgmamollmgaaGreatDoor
open Go.RowKit
attribute [local go_sem] Oper.semAt_some

set_option maxHeartbeats 1000000 in
theorem r4_Parse_1 (s : ByteArray) (w : World) (h : s.size < 20) :
    Calls Tryz.prog 18 #[.string s] w (Ret (.tuple #[hdZero, .string { data := #[] }, .int .i64 1]) w) := by
  have q2 : (s.size : Int) < 20 := by omega
  unfold hdZero
  go_enter Tryz.func18, Tryz.ntmps18
  go_wp2_with fail
  (try simp only [Exit.inBlock, Exit.then]); refine bodyPost_ret (by simp [results, Tryz.results18, go_sem]; try rfl) rfl ?_
  exact ⟨rfl, (by (repeat' (first | with_reducible exact Below.refl _ _ | with_reducible refine Below.setCell ?_ (by first | exact Nat.le_refl _ | (dsimp only; omega)) _ | with_reducible refine bstep ?_ (fresh_below _ _) | with_reducible refine Below.drew ?_)))⟩
set_option maxHeartbeats 1000000 in
theorem r4_Parse_2 (s : ByteArray) (w : World) (hs : s.size ≤ 140737488351232) (h : 20 ≤ s.size) (h2 : at_ (L s) 0 / 16 ≠ 4) :
    Calls Tryz.prog 18 #[.string s] w (Ret (.tuple #[hdZero, .string { data := #[] }, .int .i64 2]) w) := by
  have q2 : ¬ (s.size : Int) < 20 := by omega
  have e0 : (((s[0]'(by omega)).toNat : Nat) : Int) = at_ (L s) 0 := by rw [getElem_L s 0 (by omega)]; rfl
  have hb := at_bd (L s) 0
  have i4 : (0 : Int) < (s.size : Int) := by omega
  have i5 : 0 < s.size := by omega
  obtain ⟨x, hx⟩ : ∃ x, x = at_ (L s) 0 := ⟨_, rfl⟩
  rw [← hx] at e0 hb h2
  have m1 : (x / 16 != 4) = true := by simpa using h2
  have m2 : (x / 16 == 4) = false := by simpa using h2
  clear hx h2
  unfold hdZero
  go_enter Tryz.func18, Tryz.ntmps18
  go_wp2_with fail
  (try simp only [Exit.inBlock, Exit.then]); refine bodyPost_ret (by simp [results, Tryz.results18, go_sem]; try rfl) rfl ?_
  exact ⟨rfl, (by (repeat' (first | with_reducible exact Below.refl _ _ | with_reducible refine Below.setCell ?_ (by first | exact Nat.le_refl _ | (dsimp only; omega)) _ | with_reducible refine bstep ?_ (fresh_below _ _) | with_reducible refine Below.drew ?_)))⟩
set_option maxHeartbeats 2000000 in
theorem r4_Parse_3 (s : ByteArray) (w : World) (hs : s.size ≤ 140737488351232) (h : 20 ≤ s.size) (h2 : at_ (L s) 0 / 16 = 4) (h3 : ipFits s = false) :
    Calls Tryz.prog 18 #[.string s] w (Ret (.tuple #[hdZero, .string { data := #[] }, .int .i64 3]) w) := by
  have q2 : ¬ (s.size : Int) < 20 := by omega
  have e0 : (((s[0]'(by omega)).toNat : Nat) : Int) = at_ (L s) 0 := by rw [getElem_L s 0 (by omega)]; rfl
  have hb := at_bd (L s) 0
  have i4 : (0 : Int) < (s.size : Int) := by omega
  have i5 : 0 < s.size := by omega
  have c1 := fun w => r4_number s 2 w (by unfold maxLen; omega) (by omega)
  rw [show ((2 : Nat) : Int) = 2 from rfl] at c1
  have hcase : ipOwn (L s) < 20 ∨ (¬ ipOwn (L s) < 20 ∧ (s.size : Int) < ipOwn (L s)) ∨ (¬ ipOwn (L s) < 20 ∧ ¬ (s.size : Int) < ipOwn (L s) ∧ ipAll (L s) < ipOwn (L s)) ∨ (¬ ipOwn (L s) < 20 ∧ ¬ (s.size : Int) < ipOwn (L s) ∧ ¬ ipAll (L s) < ipOwn (L s) ∧ (s.size : Int) < ipAll (L s)) ∨ (¬ ipOwn (L s) < 20 ∧ ¬ (s.size : Int) < ipOwn (L s) ∧ ¬ ipAll (L s) < ipOwn (L s) ∧ ¬ (s.size : Int) < ipAll (L s) ∧ 2048 < ipAll (L s)) := by
    unfold ipFits at h3
    simp at h3
    omega
  unfold ipAll ipOwn at hcase
  have hyb := get16_bd (L s) 2
  obtain ⟨x, hx⟩ : ∃ x, x = at_ (L s) 0 := ⟨_, rfl⟩
  obtain ⟨z, hz⟩ : ∃ z, z = get16 (L s) 2 := ⟨_, rfl⟩
  rw [← hx] at e0 hb h2
  rw [← hz] at c1 hyb
  have m1 : (x / 16 != 4) = false := by simpa using h2
  have m2 : (x / 16 == 4) = true := by simpa using h2
  have m5 : x.tmod 16 = x % 16 := Int.tmod_eq_emod_of_nonneg (by omega)
  rw [← hx, ← hz] at hcase
  have C1 := hide c1
  clear c1 hx hz h2 h3
  unfold hdZero
  rcases hcase with g1 | ⟨g1, g2⟩ | ⟨g1, g2, g3⟩ | ⟨g1, g2, g3, g4⟩ | ⟨g1, g2, g3, g4, g5⟩
  all_goals
    go_enter Tryz.func18, Tryz.ntmps18
    have d0 := Cells.new w #[.int .u8 0, .int .u16 0, .bool false, .int .u8 0, .int .u8 0, .int .u32 0, .int .u32 0, .string { data := #[] }] 57
    go_wp2_with fail
    go_quiet ((go_at_call 49; refine Calls.quiet_of_same (C1.out _)))
    have d1 : Cells ((w.alloc (.cells #[.int .u8 0, .int .u16 0, .bool false, .int .u8 0, .int .u8 0, .int .u32 0, .int .u32 0, .string { data := #[] }] 57)).drewN nq) w.heap.size #[.int .u8 0, .int .u16 0, .bool false, .int .u8 0, .int .u8 0, .int .u32 0, .int .u32 0, .string { data := #[] }] 57 := d0
    have b1 : Below w.heap.size w ((w.alloc (.cells #[.int .u8 0, .int .u16 0, .bool false, .int .u8 0, .int .u8 0, .int .u32 0, .int .u32 0, .string { data := #[] }] 57)).drewN nq) := below_drewN (fresh_below _ _) nq
    clear d0
    generalize (w.alloc (.cells #[.int .u8 0, .int .u16 0, .bool false, .int .u8 0, .int .u8 0, .int .u32 0, .int .u32 0, .string { data := #[] }] 57)).drewN nq = w1 at *
    have xd1_0 : w1.cell? ⟨w.heap.size, 0, none⟩ = some (.int .u8 0) := d1.at_ 0
    have xd1_1 : w1.cell? ⟨w.heap.size, 1, none⟩ = some (.int .u16 0) := d1.at_ 1
    have xd1_2 : w1.cell? ⟨w.heap.size, 2, none⟩ = some (.bool false) := d1.at_ 2
    have xd1_3 : w1.cell? ⟨w.heap.size, 3, none⟩ = some (.int .u8 0) := d1.at_ 3
    have xd1_4 : w1.cell? ⟨w.heap.size, 4, none⟩ = some (.int .u8 0) := d1.at_ 4
    have xd1_5 : w1.cell? ⟨w.heap.size, 5, none⟩ = some (.int .u32 0) := d1.at_ 5
    have xd1_6 : w1.cell? ⟨w.heap.size, 6, none⟩ = some (.int .u32 0) := d1.at_ 6
    have xd1_7 : w1.cell? ⟨w.heap.size, 7, none⟩ = some (.string { data := #[] }) := d1.at_ 7
    have yd1_0 : w1.frozen? ⟨w.heap.size, 0, none⟩ = false := d1.free 0
    have yd1_1 : w1.frozen? ⟨w.heap.size, 1, none⟩ = false := d1.free 1
    have yd1_2 : w1.frozen? ⟨w.heap.size, 2, none⟩ = false := d1.free 2
    have yd1_3 : w1.frozen? ⟨w.heap.size, 3, none⟩ = false := d1.free 3
    have yd1_4 : w1.frozen? ⟨w.heap.size, 4, none⟩ = false := d1.free 4
    have yd1_5 : w1.frozen? ⟨w.heap.size, 5, none⟩ = false := d1.free 5
    have yd1_6 : w1.frozen? ⟨w.heap.size, 6, none⟩ = false := d1.free 6
    have yd1_7 : w1.frozen? ⟨w.heap.size, 7, none⟩ = false := d1.free 7
    go_wp2_with fail
    have r5 := (Cells.put8 d1 (.int .u8 0) (.int .u16 0) (.bool false) (.int .u8 0) (.int .u8 0) (.int .u32 0) (.int .u32 0) (.string { data := #[] }))
    have b5 := (Below.put8 b1 (b := w.heap.size) (by first | exact Nat.le_refl _ | omega) (.int .u8 0) (.int .u16 0) (.bool false) (.int .u8 0) (.int .u8 0) (.int .u32 0) (.int .u32 0) (.string { data := #[] }))
    have HR5 := hide r5; have HB5 := hide b5
    clear r5 b5 d1
    generalize ((((((((w1.setCell ⟨w.heap.size, 0, none⟩ (.int .u8 0)).setCell ⟨w.heap.size, 1, none⟩ (.int .u16 0)).setCell ⟨w.heap.size, 2, none⟩ (.bool false)).setCell ⟨w.heap.size, 3, none⟩ (.int .u8 0)).setCell ⟨w.heap.size, 4, none⟩ (.int .u8 0)).setCell ⟨w.heap.size, 5, none⟩ (.int .u32 0)).setCell ⟨w.heap.size, 6, none⟩ (.int .u32 0)).setCell ⟨w.heap.size, 7, none⟩ (.string { data := #[] })) = W5 at *
    have r5 := HR5.out; have b5 := HB5.out
    clear HR5 HB5
    have xr5_0 : W5.cell? ⟨w.heap.size, 0, none⟩ = some (.int .u8 0) := r5.at_ 0
    have xr5_1 : W5.cell? ⟨w.heap.size, 1, none⟩ = some (.int .u16 0) := r5.at_ 1
    have xr5_2 : W5.cell? ⟨w.heap.size, 2, none⟩ = some (.bool false) := r5.at_ 2
    have xr5_3 : W5.cell? ⟨w.heap.size, 3, none⟩ = some (.int .u8 0) := r5.at_ 3
    have xr5_4 : W5.cell? ⟨w.heap.size, 4, none⟩ = some (.int .u8 0) := r5.at_ 4
    have xr5_5 : W5.cell? ⟨w.heap.size, 5, none⟩ = some (.int .u32 0) := r5.at_ 5
    have xr5_6 : W5.cell? ⟨w.heap.size, 6, none⟩ = some (.int .u32 0) := r5.at_ 6
    have xr5_7 : W5.cell? ⟨w.heap.size, 7, none⟩ = some (.string { data := #[] }) := r5.at_ 7
    (try simp only [Exit.inBlock, Exit.then]); refine bodyPost_ret (by simp [results, Tryz.results18, go_sem, *]; try rfl) rfl ?_
    exact ⟨rfl, b5⟩

end Go.Proofs.YtpidgmamollmgaaGreatDoor
end
