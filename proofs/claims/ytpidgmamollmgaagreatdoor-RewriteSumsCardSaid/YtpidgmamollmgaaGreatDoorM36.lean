/- Several texts of this claim, one behind the other. -/
import Derived.Test.YtpidgmamollmgaaGreatDoorM11
import Derived.Test.YtpidgmamollmgaaGreatDoorM34
import Derived.Test.YtpidgmamollmgaaGreatDoorM18
import Derived.Test.YtpidgmamollmgaaGreatDoorM23
import Derived.Test.YtpidgmamollmgaaGreatDoorM35
import Derived.Test.YtpidgmamollmgaaGreatDoorM31
import Derived.Test.YtpidgmamollmgaaGreatDoorM33

section
/- right walked: has what a packet carries a right sum, and is it nothing but bytes 0. -/
set_option linter.unusedVariables false
set_option linter.unusedSimpArgs false
namespace Go.Proofs.YtpidgmamollmgaaGreatDoor
open Go.RowKit
attribute [local go_sem] Oper.semAt_some

set_option maxRecDepth 100000 in
set_option maxHeartbeats 2000000 in
theorem right_tcp (s l z o : ByteArray) (t i lv p sr ds r : Int) (f y : Bool) (w : World)
    (c1 : ∀ W, Calls Tryz.prog 14 #[.string s] W (Ret (.tuple #[.agg #[.int .u8 t, .int .u16 i, .bool f, .int .u8 lv, .int .u8 6, .int .u32 sr, .int .u32 ds, .string o], .string l, .int .i64 r]) W))
    (c2 : ∀ W, Calls Tryz.prog 23 #[.string l, .string { data := #[0] }] W (Ret (.string z) W))
    (c3 : ∀ W, Calls Tryz.prog 24 #[.int .u32 sr, .int .u32 ds, .string l] W (Ret (.bool y) W)) :
    Calls Tryz.prog 10 #[.string s] w (Ret (.tuple #[.bool y, .bool z.toList.isEmpty]) w) := by
  have C1 := hide c1; have C2 := hide c2; have C3 := hide c3
  clear c1 c2 c3
  go_enter Tryz.func10, Tryz.ntmps10
  go_wp2_with fail
  (with_reducible refine (C1.out _).mono ?_)
  rintro e w1 ⟨rfl, b1⟩
  have e1 := Cells.new w1 #[.int .u8 t, .int .u16 i, .bool f, .int .u8 lv, .int .u8 6, .int .u32 sr, .int .u32 ds, .string o] 49
  replace b1 : Below w.heap.size w (w1.alloc (.cells #[.int .u8 t, .int .u16 i, .bool f, .int .u8 lv, .int .u8 6, .int .u32 sr, .int .u32 ds, .string o] 49)) := bstep b1 (fresh_below _ _)
  have xe1_0 : ((w1.alloc (.cells #[.int .u8 t, .int .u16 i, .bool f, .int .u8 lv, .int .u8 6, .int .u32 sr, .int .u32 ds, .string o] 49))).cell? ⟨w1.heap.size, 0, none⟩ = some (.int .u8 t) := e1.at_ 0
  have xe1_1 : ((w1.alloc (.cells #[.int .u8 t, .int .u16 i, .bool f, .int .u8 lv, .int .u8 6, .int .u32 sr, .int .u32 ds, .string o] 49))).cell? ⟨w1.heap.size, 1, none⟩ = some (.int .u16 i) := e1.at_ 1
  have xe1_2 : ((w1.alloc (.cells #[.int .u8 t, .int .u16 i, .bool f, .int .u8 lv, .int .u8 6, .int .u32 sr, .int .u32 ds, .string o] 49))).cell? ⟨w1.heap.size, 2, none⟩ = some (.bool f) := e1.at_ 2
  have xe1_3 : ((w1.alloc (.cells #[.int .u8 t, .int .u16 i, .bool f, .int .u8 lv, .int .u8 6, .int .u32 sr, .int .u32 ds, .string o] 49))).cell? ⟨w1.heap.size, 3, none⟩ = some (.int .u8 lv) := e1.at_ 3
  have xe1_4 : ((w1.alloc (.cells #[.int .u8 t, .int .u16 i, .bool f, .int .u8 lv, .int .u8 6, .int .u32 sr, .int .u32 ds, .string o] 49))).cell? ⟨w1.heap.size, 4, none⟩ = some (.int .u8 6) := e1.at_ 4
  have xe1_5 : ((w1.alloc (.cells #[.int .u8 t, .int .u16 i, .bool f, .int .u8 lv, .int .u8 6, .int .u32 sr, .int .u32 ds, .string o] 49))).cell? ⟨w1.heap.size, 5, none⟩ = some (.int .u32 sr) := e1.at_ 5
  have xe1_6 : ((w1.alloc (.cells #[.int .u8 t, .int .u16 i, .bool f, .int .u8 lv, .int .u8 6, .int .u32 sr, .int .u32 ds, .string o] 49))).cell? ⟨w1.heap.size, 6, none⟩ = some (.int .u32 ds) := e1.at_ 6
  have xe1_7 : ((w1.alloc (.cells #[.int .u8 t, .int .u16 i, .bool f, .int .u8 lv, .int .u8 6, .int .u32 sr, .int .u32 ds, .string o] 49))).cell? ⟨w1.heap.size, 7, none⟩ = some (.string o) := e1.at_ 7
  have E1 := hide e1; have B1 := hide b1
  clear e1 b1
  go_wp2_with fail
  (with_reducible refine (C2.out _).mono ?_)
  rintro e w2 ⟨rfl, b2⟩
  have e2 := Cells.below b2 E1.out
  have b3 : Below w.heap.size w w2 := bstep B1.out b2
  clear b2 B1 E1 xe1_0 xe1_1 xe1_2 xe1_3 xe1_4 xe1_5 xe1_6 xe1_7
  have xe2_0 : w2.cell? ⟨w1.heap.size, 0, none⟩ = some (.int .u8 t) := e2.at_ 0
  have xe2_1 : w2.cell? ⟨w1.heap.size, 1, none⟩ = some (.int .u16 i) := e2.at_ 1
  have xe2_2 : w2.cell? ⟨w1.heap.size, 2, none⟩ = some (.bool f) := e2.at_ 2
  have xe2_3 : w2.cell? ⟨w1.heap.size, 3, none⟩ = some (.int .u8 lv) := e2.at_ 3
  have xe2_4 : w2.cell? ⟨w1.heap.size, 4, none⟩ = some (.int .u8 6) := e2.at_ 4
  have xe2_5 : w2.cell? ⟨w1.heap.size, 5, none⟩ = some (.int .u32 sr) := e2.at_ 5
  have xe2_6 : w2.cell? ⟨w1.heap.size, 6, none⟩ = some (.int .u32 ds) := e2.at_ 6
  have xe2_7 : w2.cell? ⟨w1.heap.size, 7, none⟩ = some (.string o) := e2.at_ 7
  have B3 := hide b3
  clear e2 b3
  go_wp2_with fail
  (with_reducible refine (C3.out _).mono ?_)
  rintro e w4 ⟨rfl, b4⟩
  have b5 := bstep B3.out b4
  clear b4 B3 xe2_0 xe2_1 xe2_2 xe2_3 xe2_4 xe2_5 xe2_6 xe2_7
  go_wp2_with fail
  go_ret2
  exact ⟨rfl, b5⟩

set_option maxRecDepth 100000 in
set_option maxHeartbeats 2000000 in
theorem right_udp (s l z o : ByteArray) (t i lv p sr ds r : Int) (f y : Bool) (w : World)
    (c1 : ∀ W, Calls Tryz.prog 14 #[.string s] W (Ret (.tuple #[.agg #[.int .u8 t, .int .u16 i, .bool f, .int .u8 lv, .int .u8 17, .int .u32 sr, .int .u32 ds, .string o], .string l, .int .i64 r]) W))
    (c2 : ∀ W, Calls Tryz.prog 23 #[.string l, .string { data := #[0] }] W (Ret (.string z) W))
    (c3 : ∀ W, Calls Tryz.prog 25 #[.int .u32 sr, .int .u32 ds, .string l] W (Ret (.bool y) W)) :
    Calls Tryz.prog 10 #[.string s] w (Ret (.tuple #[.bool y, .bool z.toList.isEmpty]) w) := by
  have C1 := hide c1; have C2 := hide c2; have C3 := hide c3
  clear c1 c2 c3
  go_enter Tryz.func10, Tryz.ntmps10
  go_wp2_with fail
  (with_reducible refine (C1.out _).mono ?_)
  rintro e w1 ⟨rfl, b1⟩
  have e1 := Cells.new w1 #[.int .u8 t, .int .u16 i, .bool f, .int .u8 lv, .int .u8 17, .int .u32 sr, .int .u32 ds, .string o] 49
  replace b1 : Below w.heap.size w (w1.alloc (.cells #[.int .u8 t, .int .u16 i, .bool f, .int .u8 lv, .int .u8 17, .int .u32 sr, .int .u32 ds, .string o] 49)) := bstep b1 (fresh_below _ _)
  have xe1_0 : ((w1.alloc (.cells #[.int .u8 t, .int .u16 i, .bool f, .int .u8 lv, .int .u8 17, .int .u32 sr, .int .u32 ds, .string o] 49))).cell? ⟨w1.heap.size, 0, none⟩ = some (.int .u8 t) := e1.at_ 0
  have xe1_1 : ((w1.alloc (.cells #[.int .u8 t, .int .u16 i, .bool f, .int .u8 lv, .int .u8 17, .int .u32 sr, .int .u32 ds, .string o] 49))).cell? ⟨w1.heap.size, 1, none⟩ = some (.int .u16 i) := e1.at_ 1
  have xe1_2 : ((w1.alloc (.cells #[.int .u8 t, .int .u16 i, .bool f, .int .u8 lv, .int .u8 17, .int .u32 sr, .int .u32 ds, .string o] 49))).cell? ⟨w1.heap.size, 2, none⟩ = some (.bool f) := e1.at_ 2
  have xe1_3 : ((w1.alloc (.cells #[.int .u8 t, .int .u16 i, .bool f, .int .u8 lv, .int .u8 17, .int .u32 sr, .int .u32 ds, .string o] 49))).cell? ⟨w1.heap.size, 3, none⟩ = some (.int .u8 lv) := e1.at_ 3
  have xe1_4 : ((w1.alloc (.cells #[.int .u8 t, .int .u16 i, .bool f, .int .u8 lv, .int .u8 17, .int .u32 sr, .int .u32 ds, .string o] 49))).cell? ⟨w1.heap.size, 4, none⟩ = some (.int .u8 17) := e1.at_ 4
  have xe1_5 : ((w1.alloc (.cells #[.int .u8 t, .int .u16 i, .bool f, .int .u8 lv, .int .u8 17, .int .u32 sr, .int .u32 ds, .string o] 49))).cell? ⟨w1.heap.size, 5, none⟩ = some (.int .u32 sr) := e1.at_ 5
  have xe1_6 : ((w1.alloc (.cells #[.int .u8 t, .int .u16 i, .bool f, .int .u8 lv, .int .u8 17, .int .u32 sr, .int .u32 ds, .string o] 49))).cell? ⟨w1.heap.size, 6, none⟩ = some (.int .u32 ds) := e1.at_ 6
  have xe1_7 : ((w1.alloc (.cells #[.int .u8 t, .int .u16 i, .bool f, .int .u8 lv, .int .u8 17, .int .u32 sr, .int .u32 ds, .string o] 49))).cell? ⟨w1.heap.size, 7, none⟩ = some (.string o) := e1.at_ 7
  have E1 := hide e1; have B1 := hide b1
  clear e1 b1
  go_wp2_with fail
  (with_reducible refine (C2.out _).mono ?_)
  rintro e w2 ⟨rfl, b2⟩
  have e2 := Cells.below b2 E1.out
  have b3 : Below w.heap.size w w2 := bstep B1.out b2
  clear b2 B1 E1 xe1_0 xe1_1 xe1_2 xe1_3 xe1_4 xe1_5 xe1_6 xe1_7
  have xe2_0 : w2.cell? ⟨w1.heap.size, 0, none⟩ = some (.int .u8 t) := e2.at_ 0
  have xe2_1 : w2.cell? ⟨w1.heap.size, 1, none⟩ = some (.int .u16 i) := e2.at_ 1
  have xe2_2 : w2.cell? ⟨w1.heap.size, 2, none⟩ = some (.bool f) := e2.at_ 2
  have xe2_3 : w2.cell? ⟨w1.heap.size, 3, none⟩ = some (.int .u8 lv) := e2.at_ 3
  have xe2_4 : w2.cell? ⟨w1.heap.size, 4, none⟩ = some (.int .u8 17) := e2.at_ 4
  have xe2_5 : w2.cell? ⟨w1.heap.size, 5, none⟩ = some (.int .u32 sr) := e2.at_ 5
  have xe2_6 : w2.cell? ⟨w1.heap.size, 6, none⟩ = some (.int .u32 ds) := e2.at_ 6
  have xe2_7 : w2.cell? ⟨w1.heap.size, 7, none⟩ = some (.string o) := e2.at_ 7
  have B3 := hide b3
  clear e2 b3
  go_wp2_with fail
  (with_reducible refine (C3.out _).mono ?_)
  rintro e w4 ⟨rfl, b4⟩
  have b5 := bstep B3.out b4
  clear b4 B3 xe2_0 xe2_1 xe2_2 xe2_3 xe2_4 xe2_5 xe2_6 xe2_7
  go_wp2_with fail
  go_ret2
  exact ⟨rfl, b5⟩

set_option maxRecDepth 100000 in
set_option maxHeartbeats 2000000 in
theorem right_icmp (s l z o : ByteArray) (t i lv p sr ds r : Int) (f y : Bool) (w : World) (hp : p ≠ 6 ∧ p ≠ 17)
    (c1 : ∀ W, Calls Tryz.prog 14 #[.string s] W (Ret (.tuple #[.agg #[.int .u8 t, .int .u16 i, .bool f, .int .u8 lv, .int .u8 p, .int .u32 sr, .int .u32 ds, .string o], .string l, .int .i64 r]) W))
    (c2 : ∀ W, Calls Tryz.prog 23 #[.string l, .string { data := #[0] }] W (Ret (.string z) W))
    (c3 : ∀ W, Calls Tryz.prog 26 #[.string l] W (Ret (.bool y) W)) :
    Calls Tryz.prog 10 #[.string s] w (Ret (.tuple #[.bool y, .bool z.toList.isEmpty]) w) := by
  have q1 : (p == 6) = false := by simpa using hp.1
  have q2 : (p == 17) = false := by simpa using hp.2
  have C1 := hide c1; have C2 := hide c2; have C3 := hide c3
  clear c1 c2 c3
  go_enter Tryz.func10, Tryz.ntmps10
  go_wp2_with fail
  (with_reducible refine (C1.out _).mono ?_)
  rintro e w1 ⟨rfl, b1⟩
  have e1 := Cells.new w1 #[.int .u8 t, .int .u16 i, .bool f, .int .u8 lv, .int .u8 p, .int .u32 sr, .int .u32 ds, .string o] 49
  replace b1 : Below w.heap.size w (w1.alloc (.cells #[.int .u8 t, .int .u16 i, .bool f, .int .u8 lv, .int .u8 p, .int .u32 sr, .int .u32 ds, .string o] 49)) := bstep b1 (fresh_below _ _)
  have xe1_0 : ((w1.alloc (.cells #[.int .u8 t, .int .u16 i, .bool f, .int .u8 lv, .int .u8 p, .int .u32 sr, .int .u32 ds, .string o] 49))).cell? ⟨w1.heap.size, 0, none⟩ = some (.int .u8 t) := e1.at_ 0
  have xe1_1 : ((w1.alloc (.cells #[.int .u8 t, .int .u16 i, .bool f, .int .u8 lv, .int .u8 p, .int .u32 sr, .int .u32 ds, .string o] 49))).cell? ⟨w1.heap.size, 1, none⟩ = some (.int .u16 i) := e1.at_ 1
  have xe1_2 : ((w1.alloc (.cells #[.int .u8 t, .int .u16 i, .bool f, .int .u8 lv, .int .u8 p, .int .u32 sr, .int .u32 ds, .string o] 49))).cell? ⟨w1.heap.size, 2, none⟩ = some (.bool f) := e1.at_ 2
  have xe1_3 : ((w1.alloc (.cells #[.int .u8 t, .int .u16 i, .bool f, .int .u8 lv, .int .u8 p, .int .u32 sr, .int .u32 ds, .string o] 49))).cell? ⟨w1.heap.size, 3, none⟩ = some (.int .u8 lv) := e1.at_ 3
  have xe1_4 : ((w1.alloc (.cells #[.int .u8 t, .int .u16 i, .bool f, .int .u8 lv, .int .u8 p, .int .u32 sr, .int .u32 ds, .string o] 49))).cell? ⟨w1.heap.size, 4, none⟩ = some (.int .u8 p) := e1.at_ 4
  have xe1_5 : ((w1.alloc (.cells #[.int .u8 t, .int .u16 i, .bool f, .int .u8 lv, .int .u8 p, .int .u32 sr, .int .u32 ds, .string o] 49))).cell? ⟨w1.heap.size, 5, none⟩ = some (.int .u32 sr) := e1.at_ 5
  have xe1_6 : ((w1.alloc (.cells #[.int .u8 t, .int .u16 i, .bool f, .int .u8 lv, .int .u8 p, .int .u32 sr, .int .u32 ds, .string o] 49))).cell? ⟨w1.heap.size, 6, none⟩ = some (.int .u32 ds) := e1.at_ 6
  have xe1_7 : ((w1.alloc (.cells #[.int .u8 t, .int .u16 i, .bool f, .int .u8 lv, .int .u8 p, .int .u32 sr, .int .u32 ds, .string o] 49))).cell? ⟨w1.heap.size, 7, none⟩ = some (.string o) := e1.at_ 7
  have E1 := hide e1; have B1 := hide b1
  clear e1 b1
  go_wp2_with fail
  (with_reducible refine (C2.out _).mono ?_)
  rintro e w2 ⟨rfl, b2⟩
  have e2 := Cells.below b2 E1.out
  have b3 : Below w.heap.size w w2 := bstep B1.out b2
  clear b2 B1 E1 xe1_0 xe1_1 xe1_2 xe1_3 xe1_4 xe1_5 xe1_6 xe1_7
  have xe2_0 : w2.cell? ⟨w1.heap.size, 0, none⟩ = some (.int .u8 t) := e2.at_ 0
  have xe2_1 : w2.cell? ⟨w1.heap.size, 1, none⟩ = some (.int .u16 i) := e2.at_ 1
  have xe2_2 : w2.cell? ⟨w1.heap.size, 2, none⟩ = some (.bool f) := e2.at_ 2
  have xe2_3 : w2.cell? ⟨w1.heap.size, 3, none⟩ = some (.int .u8 lv) := e2.at_ 3
  have xe2_4 : w2.cell? ⟨w1.heap.size, 4, none⟩ = some (.int .u8 p) := e2.at_ 4
  have xe2_5 : w2.cell? ⟨w1.heap.size, 5, none⟩ = some (.int .u32 sr) := e2.at_ 5
  have xe2_6 : w2.cell? ⟨w1.heap.size, 6, none⟩ = some (.int .u32 ds) := e2.at_ 6
  have xe2_7 : w2.cell? ⟨w1.heap.size, 7, none⟩ = some (.string o) := e2.at_ 7
  have B3 := hide b3
  clear e2 b3
  go_wp2_with fail
  (with_reducible refine (C3.out _).mono ?_)
  rintro e w4 ⟨rfl, b4⟩
  have b5 := bstep B3.out b4
  clear b4 B3 xe2_0 xe2_1 xe2_2 xe2_3 xe2_4 xe2_5 xe2_6 xe2_7
  go_wp2_with fail
  go_ret2
  exact ⟨rfl, b5⟩

theorem Trim1 (s : ByteArray) (w : World) (hs : s.size ≤ 140737488351232) :
    Calls Tryz.prog 23 #[.string s, .string { data := #[0] }] w (Ret (.string (trim0 s)) w) :=
  (Trim0 s w hs).mono fun e w' h => ⟨h.1, by rcases h.2 with h | h <;> rw [h]; exact Below.refl _ _; exact (Below.refl _ _).drew⟩
theorem rest_size {s : ByteArray} : (ipRest s).size ≤ s.size := by
  unfold ipRest
  split
  · rw [ByteArray.size_extract]; omega
  · exact Nat.zero_le _
theorem right_walk (s : ByteArray) (w : World) (hs : s.size ≤ 140737488351232) :
    Calls Tryz.prog 10 #[.string s] w (Ret (.tuple #[.bool (rightOf s), .bool (trim0 (ipRest s)).toList.isEmpty]) w) := by
  have hz := Nat.le_trans (rest_size (s := s)) hs
  have c1 := fun W => ip_Parse s W hs
  have c2 := fun W => Trim1 (ipRest s) W hz
  obtain ⟨h1, h2, h3, h4, h5, h6, h7⟩ := hdRes_ok hs
  unfold rightOf rightL
  by_cases k6 : (hdRes s).p = 6
  · rw [if_pos k6, S_L]
    have c3 := fun W => t_Check (hdRes s).s (hdRes s).d (ipRest s) W h5 h6 hz
    unfold Hd.cells at c1
    rw [k6] at c1
    exact right_tcp s _ _ _ _ _ _ 0 _ _ _ _ _ w c1 c2 c3
  rw [if_neg k6]
  by_cases k17 : (hdRes s).p = 17
  · rw [if_pos k17, S_L]
    have c3 := fun W => udp_Check (hdRes s).s (hdRes s).d (ipRest s) W h5 h6 hz
    unfold Hd.cells at c1
    rw [k17] at c1
    exact right_udp s _ _ _ _ _ _ 0 _ _ _ _ _ w c1 c2 c3
  rw [if_neg k17]
  have c3 := fun W => i_Check (ipRest s) W hz
  unfold Hd.cells at c1
  rw [L_length]
  exact right_icmp s _ _ _ _ _ _ _ _ _ _ _ _ w ⟨k6, k17⟩ c1 c2 c3
end Go.Proofs.YtpidgmamollmgaaGreatDoor
end

section
/- RewriteSums walked. -/
set_option linter.unusedVariables false
set_option linter.unusedSimpArgs false
namespace Go.Proofs.YtpidgmamollmgaaGreatDoor
open Go.RowKit
attribute [local go_sem] Oper.semAt_some

set_option maxRecDepth 100000 in
set_option maxHeartbeats 4000000 in
theorem sums_long (s : ByteArray) (a b c d : Int) (w : World) (T0 : Tabs w) (q0 : (2500 : Int) < (s.size : Int)) (p5 : ∀ W, Tabs W → Calls Tryz.prog 5 #[] W (Ret (.bool true) W)) :
    Calls Tryz.prog 4 #[.string s, .agg #[.int .u32 a, .int .u16 b, .int .u32 c, .int .u16 d]] w (Ret (.bool true) w) := by
  have P5 := hide p5; have TT := hide T0
  clear p5 T0
  go_enter Tryz.func4, Tryz.ntmps4
  have d0 := Cells.new w #[.int .u32 a, .int .u16 b, .int .u32 c, .int .u16 d] 28
  have l0 := fresh_below w (.cells #[.int .u32 a, .int .u16 b, .int .u32 c, .int .u16 d] 28)
  have B0 := hide l0; have D0 := hide d0
  clear l0 d0
  go_wp2_with fail
  have l0 := B0.out; have d0 := D0.out
  clear B0 D0
  generalize (w.alloc (.cells #[.int .u32 a, .int .u16 b, .int .u32 c, .int .u16 d] 28)) = w0 at *
  (with_reducible refine (P5.out _ (TT.out.below l0)).mono ?_)
  rintro e w1 ⟨rfl, l1⟩
  replace l1 := bstep l0 l1
  go_wp2_with fail
  go_ret
  exact ⟨rfl, l1⟩

set_option maxRecDepth 100000 in
set_option maxHeartbeats 4000000 in
theorem sums_no (s : ByteArray) (a b c d x0 x1 x2 x3 x4 x5 x6 x8 r : Int) (x7 : Bool) (w : World) (T0 : Tabs w) (q0 : ¬ (2500 : Int) < (s.size : Int)) (q1 : (r != 0) = true) (q2 : (r == 0) = false) (p5 : ∀ W, Tabs W → Calls Tryz.prog 5 #[] W (Ret (.bool true) W)) (p0 : ∀ W, Kinds W → Calls Tryz.prog 8 #[.string s, .int .u8 1] W (Ret (.tuple #[.agg #[.int .u8 x0, .int .u32 x1, .int .u16 x2, .int .u32 x3, .int .u16 x4, .int .i64 x5, .int .u8 x6, .bool x7, .int .u8 x8], .bool false]) W)) (p1 : ∀ W, Kinds W → Calls Tryz.prog 6 #[.string s, .agg #[.int .u32 a, .int .u16 b, .int .u32 c, .int .u16 d]] W (Ret (.tuple #[.string { data := #[] }, .int .i64 r]) W)) :
    Calls Tryz.prog 4 #[.string s, .agg #[.int .u32 a, .int .u16 b, .int .u32 c, .int .u16 d]] w (Ret (.bool true) w) := by
  have P5 := hide p5; have P0 := hide p0; have P1 := hide p1; have TT := hide T0; have KK := hide (show Kinds w from And.left T0)
  clear p5 p0 p1 T0
  go_enter Tryz.func4, Tryz.ntmps4
  have d0 := Cells.new w #[.int .u32 a, .int .u16 b, .int .u32 c, .int .u16 d] 28
  have l0 := fresh_below w (.cells #[.int .u32 a, .int .u16 b, .int .u32 c, .int .u16 d] 28)
  have xd0_0 : ((w.alloc (.cells #[.int .u32 a, .int .u16 b, .int .u32 c, .int .u16 d] 28))).cell? ⟨w.heap.size, 0, none⟩ = some (.int .u32 a) := d0.at_ 0
  have xd0_1 : ((w.alloc (.cells #[.int .u32 a, .int .u16 b, .int .u32 c, .int .u16 d] 28))).cell? ⟨w.heap.size, 1, none⟩ = some (.int .u16 b) := d0.at_ 1
  have xd0_2 : ((w.alloc (.cells #[.int .u32 a, .int .u16 b, .int .u32 c, .int .u16 d] 28))).cell? ⟨w.heap.size, 2, none⟩ = some (.int .u32 c) := d0.at_ 2
  have xd0_3 : ((w.alloc (.cells #[.int .u32 a, .int .u16 b, .int .u32 c, .int .u16 d] 28))).cell? ⟨w.heap.size, 3, none⟩ = some (.int .u16 d) := d0.at_ 3
  have B0 := hide l0; have D0 := hide d0
  clear l0 d0
  go_wp2_with fail
  have l0 := B0.out; have d0 := D0.out
  clear B0 D0 xd0_0 xd0_1 xd0_2 xd0_3
  generalize (w.alloc (.cells #[.int .u32 a, .int .u16 b, .int .u32 c, .int .u16 d] 28)) = w0 at *
  (with_reducible refine (P1.out _ (KK.out.below l0)).mono ?_)
  rintro e w1 ⟨rfl, l1⟩
  replace l1 := bstep l0 l1
  go_wp2_with fail
  (with_reducible refine (P0.out _ (KK.out.below l1)).mono ?_)
  rintro e w2 ⟨rfl, l2⟩
  replace l2 := bstep l1 l2
  replace l2 := bstep l2 (fresh_below _ (.cells #[.int .u8 x0, .int .u32 x1, .int .u16 x2, .int .u32 x3, .int .u16 x4, .int .i64 x5, .int .u8 x6, .bool x7, .int .u8 x8] 38))
  have B2 := hide l2
  clear l2
  go_wp2_with fail
  have l2 := B2.out
  (with_reducible refine (P5.out _ (TT.out.below l2)).mono ?_)
  rintro e w3 ⟨rfl, l3⟩
  replace l3 := bstep l2 l3
  go_wp2_with fail
  go_ret
  exact ⟨rfl, l3⟩

set_option maxRecDepth 100000 in
set_option maxHeartbeats 4000000 in
theorem sums_yes (s t m : ByteArray) (a b c d x0 x1 x2 x3 x4 x5 x6 x8 y : Int) (x7 v0 v1 z0 z1 : Bool) (w : World) (T0 : Tabs w) (q0 : ¬ (2500 : Int) < (s.size : Int)) (q2 : ¬ (t.size : Int) < 20) (q3 : decide ((t.size : Int) < y % 16 * 4) = false) (q4 : y % 16 * 4 ≤ (t.size : Int))
    (i5 : 0 < t.size) (i4 : (0 : Int) < (t.size : Int)) (hy : 0 ≤ y ∧ y ≤ 255) (e0 : (((t[0]'i5).toNat : Nat) : Int) = y) (em : t.extract 0 (y % 16 * 4).toNat = m) (hv : ((v1 == v0) || z0 || z1) = true)
    (p5 : ∀ W, Tabs W → Calls Tryz.prog 5 #[] W (Ret (.bool true) W)) (p0 : ∀ W, Kinds W → Calls Tryz.prog 8 #[.string s, .int .u8 1] W (Ret (.tuple #[.agg #[.int .u8 x0, .int .u32 x1, .int .u16 x2, .int .u32 x3, .int .u16 x4, .int .i64 x5, .int .u8 x6, .bool x7, .int .u8 x8], .bool true]) W)) (p1 : ∀ W, Kinds W → Calls Tryz.prog 6 #[.string s, .agg #[.int .u32 a, .int .u16 b, .int .u32 c, .int .u16 d]] W (Ret (.tuple #[.string t, .int .i64 0]) W))
    (p2 : ∀ W, Calls Tryz.prog 10 #[.string s] W (Ret (.tuple #[.bool v0, .bool z0]) W))
    (p3 : ∀ W, Calls Tryz.prog 10 #[.string t] W (Ret (.tuple #[.bool v1, .bool z1]) W))
    (p4 : ∀ (W : World) (g : Nat), g = W.heap.size → Calls Tryz.prog 9 #[.slice (some ⟨g, 0, none⟩) 1 1] (W.alloc (.cells #[.string m] 9)) (Ret (.bool true) (W.alloc (.cells #[.string m] 9)))) :
    Calls Tryz.prog 4 #[.string s, .agg #[.int .u32 a, .int .u16 b, .int .u32 c, .int .u16 d]] w (Ret (.bool true) w) := by
  have m5 : y.tmod 16 = y % 16 := Int.tmod_eq_emod_of_nonneg (by omega)
  have oZ : (0 : Int) ≤ y % 16 * 4 := by omega
  have kw : IntKind.i64.wrap (y % 16 * 4) = y % 16 * 4 := IntWalk.i64_in _ (by omega)
  have P5 := hide p5; have P0 := hide p0; have P1 := hide p1; have P2 := hide p2; have P3 := hide p3; have P4 := hide p4; have TT := hide T0; have KK := hide (show Kinds w from And.left T0)
  have HV := hide hv; have HY := hide hy; have E0 := hide e0; have EM := hide em; have M5 := hide m5; have OZ := hide oZ; have KW := hide kw
  clear p5 p0 p1 p2 p3 p4 T0 hv hy e0 em m5 oZ kw
  go_enter Tryz.func4, Tryz.ntmps4
  have d0 := Cells.new w #[.int .u32 a, .int .u16 b, .int .u32 c, .int .u16 d] 28
  have l0 := fresh_below w (.cells #[.int .u32 a, .int .u16 b, .int .u32 c, .int .u16 d] 28)
  have xd0_0 : ((w.alloc (.cells #[.int .u32 a, .int .u16 b, .int .u32 c, .int .u16 d] 28))).cell? ⟨w.heap.size, 0, none⟩ = some (.int .u32 a) := d0.at_ 0
  have xd0_1 : ((w.alloc (.cells #[.int .u32 a, .int .u16 b, .int .u32 c, .int .u16 d] 28))).cell? ⟨w.heap.size, 1, none⟩ = some (.int .u16 b) := d0.at_ 1
  have xd0_2 : ((w.alloc (.cells #[.int .u32 a, .int .u16 b, .int .u32 c, .int .u16 d] 28))).cell? ⟨w.heap.size, 2, none⟩ = some (.int .u32 c) := d0.at_ 2
  have xd0_3 : ((w.alloc (.cells #[.int .u32 a, .int .u16 b, .int .u32 c, .int .u16 d] 28))).cell? ⟨w.heap.size, 3, none⟩ = some (.int .u16 d) := d0.at_ 3
  have B0 := hide l0; have D0 := hide d0
  clear l0 d0
  go_wp2_with fail
  have l0 := B0.out; have d0 := D0.out
  clear B0 D0 xd0_0 xd0_1 xd0_2 xd0_3
  generalize (w.alloc (.cells #[.int .u32 a, .int .u16 b, .int .u32 c, .int .u16 d] 28)) = w0 at *
  (with_reducible refine (P1.out _ (KK.out.below l0)).mono ?_)
  rintro e w1 ⟨rfl, l1⟩
  replace l1 := bstep l0 l1
  go_wp2_with fail
  (with_reducible refine (P0.out _ (KK.out.below l1)).mono ?_)
  rintro e w2 ⟨rfl, l2⟩
  replace l2 := bstep l1 l2
  replace l2 := bstep l2 (fresh_below _ (.cells #[.int .u8 x0, .int .u32 x1, .int .u16 x2, .int .u32 x3, .int .u16 x4, .int .i64 x5, .int .u8 x6, .bool x7, .int .u8 x8] 38))
  have B2 := hide l2
  clear l2
  have hy := HY.out; have e0 := E0.out; have em := EM.out; have m5 := M5.out; have oZ := OZ.out; have kw := KW.out
  go_wp2_with fail
  clear hy e0 em m5 oZ kw q3 q4
  have l2 := B2.out
  (with_reducible refine (P4.out _ _ (by simp)).mono ?_)
  rintro e w3 ⟨rfl, l3⟩
  replace l3 := bstep (bstep l2 (fresh_below _ (.cells #[.string m] 9))) l3
  clear l2 B2
  go_wp2_with fail
  (with_reducible refine (P2.out _).mono ?_)
  rintro e w4 ⟨rfl, l4⟩
  replace l4 := bstep l3 l4
  go_wp2_with fail
  (with_reducible refine (P3.out _).mono ?_)
  rintro e w5 ⟨rfl, l5⟩
  replace l5 := bstep l4 l5
  have hv := HV.out
  clear l4 l3 l1 l0 P0 P1 P2 P3 P4 d0 HV
  revert hv
  cases v0 <;> cases v1 <;> cases z0 <;> cases z1
  all_goals
    intro hv
    first
    | exact absurd hv (by decide)
    | (clear hv
       go_wp2_with fail
       (with_reducible refine (P5.out _ (TT.out.below l5)).mono ?_)
       rintro e w6 ⟨rfl, l6⟩
       replace l6 := bstep l5 l6
       go_wp2_with fail
       go_ret
       exact ⟨rfl, l6⟩)

theorem RewriteSums_walk (s : ByteArray) (a b c d : Int) (w : World) (T0 : Tabs w) (hs : s.size ≤ 140737488351232) (ha : 0 ≤ a ∧ a ≤ 4294967295) (hb : 0 ≤ b ∧ b ≤ 65535) (hc : 0 ≤ c ∧ c ≤ 4294967295) (hd : 0 ≤ d ∧ d ≤ 65535) :
    Calls Tryz.prog 4 #[.string s, .agg #[.int .u32 a, .int .u16 b, .int .u32 c, .int .u16 d]] w (Ret (.bool true) w) := by
  have p5 := fun W T => turned W T
  by_cases hl : (2500 : Int) < (s.size : Int)
  · exact sums_long s a b c d w T0 hl p5
  have p0 := fun W K => taken_walk s 1 W K hs
  have p1 := fun W K => rw_Apply a b c d s W K ha hb hc hd hs
  unfold Seen.cells at p0
  by_cases ht : seenWhy s = 0 ∧ 1 < (seenOf s).l ∧ 20 ≤ s.size
  · rw [decide_eq_true ht] at p0
    obtain ⟨e1, e2, e3, e4, e5⟩ := rw_sums ht.1 ht.2.1 ha hb hc hd _ rfl
    rw [e1] at p1
    have hts : (rwOut s a b c d).size ≤ 140737488351232 := by
      obtain ⟨_, _, _, _, z, _⟩ := rw_seen ht.1 ht.2.1 ha hb hc hd _ rfl
      omega
    have p2 := fun W => right_walk s W hs
    have p3 := fun W => right_walk (rwOut s a b c d) W hts
    rw [← trim0_void, ← trim0_void] at e5
    generalize rwOut s a b c d = t at *
    have hy := at_bd (L t) 0
    have ho : ipOwn (L t) = at_ (L t) 0 % 16 * 4 := rfl
    rw [ho] at e3 e4
    have p4 := fun (W : World) (g : Nat) (hg : g = W.heap.size) => Holds (some ⟨g, 0, none⟩) 1 1 [t.extract 0 (at_ (L t) 0 % 16 * 4).toNat] (W.alloc (.cells #[.string (t.extract 0 (at_ (L t) 0 % 16 * 4).toNat)] 9)) (by subst hg; exact Row.freshN W #[.string (t.extract 0 (at_ (L t) 0 % 16 * 4).toNat)] 9 _ _ rfl rfl) (by
      intro x hx
      simp only [List.mem_singleton] at hx
      subst hx
      rw [ByteArray.size_extract]; omega) (by omega)
    have hm : holds ([t.extract 0 (at_ (L t) 0 % 16 * 4).toNat].map L) = true := by
      rw [List.map_singleton, L_extract, List.drop_zero, Nat.sub_zero]; exact e4
    rw [hm] at p4
    exact sums_yes s t _ a b c d _ _ _ _ _ _ _ _ (at_ (L t) 0) _ _ _ _ _ w T0 hl (by omega) (decide_eq_false (by omega)) (by omega) (by omega) (by omega) hy (by rw [getElem_L t 0 (by omega)]; rfl) rfl (by
      rcases e5 with h | h | h
      · rw [h]; simp
      · rw [h]; simp
      · rw [h]; simp) p5 p0 p1 p2 p3 p4
  · rw [decide_eq_false ht] at p0
    have hw : rwWhy s ≠ 0 := by
      intro h
      apply ht
      unfold rwWhy at h
      by_cases h0 : seenWhy s = 0
      · rw [if_neg (by omega)] at h
        by_cases h1 : (seenOf s).l < 2
        · rw [if_pos h1] at h; omega
        · refine ⟨h0, by omega, ?_⟩
          obtain ⟨_, z, _⟩ := rw_sums h0 (by omega) ha hb hc hd _ rfl
          obtain ⟨_, _, _, _, z2, _⟩ := rw_seen h0 (by omega) ha hb hc hd _ rfl
          omega
      · rw [if_pos h0] at h; omega
    have ho : rwOut s a b c d = { data := #[] } := by unfold rwOut; rw [if_neg hw]
    rw [ho] at p1
    exact sums_no s a b c d _ _ _ _ _ _ _ _ _ _ w T0 hl (by simpa using hw) (by simpa using hw) p5 p0 p1
end Go.Proofs.YtpidgmamollmgaaGreatDoor
end
