/- Several texts of this claim, one behind the other. -/
import Derived.Test.YtilfcikhipadpaaGreatDoorK23a
import Derived.Deep.RegionHeld3

section
/- A packet that is looked at (tuples), over this program. -/
set_option linter.unusedVariables false
set_option linter.unusedSimpArgs false
namespace Go.Proofs.YtilfcikhipadpaaGreatDoor
open Go.RowKit
attribute [local go_sem] Oper.semAt_some

/-! ### all that lay there lies as it lay, but block B -/
def But (B : Nat) (w w' : World) : Prop := Below 0 w w' ∧ ∀ k, k < w.heap.size → k ≠ B → w'.heap[k]? = w.heap[k]?
theorem But.refl (B : Nat) (w : World) : But B w w := ⟨Below.refl _ _, fun _ _ _ => rfl⟩
theorem But.of_below {B : Nat} {w w' : World} (h : Below w.heap.size w w') : But B w w' := ⟨h.mono (Nat.zero_le _), fun k hk _ => h.block k hk⟩
theorem But.step {B : Nat} {a b c : World} (h : But B a b) (k : Below b.heap.size b c) : But B a c := ⟨h.1.trans (k.mono (Nat.zero_le _)), fun i hi hb => (k.block i (Nat.lt_of_lt_of_le hi h.1.size)).trans (h.2 i hi hb)⟩
theorem But.trans {B : Nat} {a b c : World} (h : But B a b) (k : But B b c) : But B a c := ⟨h.1.trans k.1, fun i hi hb => (k.2 i (Nat.lt_of_lt_of_le hi h.1.size) hb).trans (h.2 i hi hb)⟩
theorem But.set {B : Nat} {a b : World} (h : But B a b) (j : Nat) (v : Value) : But B a (b.setCell ⟨B, j, none⟩ v) := ⟨h.1.setCell (Nat.zero_le _) _, fun i hi hb => (Below.heap_setCell b ⟨B, j, none⟩ v i hb).trans (h.2 i hi hb)⟩
theorem But.drew {B : Nat} {a b : World} (h : But B a b) : But B a b.drew := ⟨h.1.drew, h.2⟩
theorem But.cells {B : Nat} {a b : World} (h : But B a b) {k : Nat} {cs : Array Value} {t : TypeId} (hk : k ≠ B) (c : Cells a k cs t) : Cells b k cs t := (h.2 k c.lt hk).trans c
theorem But.below {n B : Nat} {a b : World} (h : But B a b) (hn : n ≤ B) (hB : B ≤ a.heap.size) : Below n a b := ⟨h.1.os, h.1.tape, h.1.output, h.1.size, fun k hk => h.2 k (by omega) (by omega)⟩

/-- a packet that was taken apart, and what is seen of it so far, in a block -/
def pkCells (h : Hd) (l : ByteArray) (x : Seen) : Array Value := #[.int .u8 h.t, .int .u16 h.i, .bool h.f, .int .u8 h.l, .int .u8 h.p, .int .u32 h.s, .int .u32 h.d, .string h.o, .string l, .int .u8 x.t.p, .int .u32 x.t.a, .int .u16 x.t.b, .int .u32 x.t.c, .int .u16 x.t.d, .int .i64 x.k, .int .u8 x.f, .bool x.q, .int .u8 x.l]
def Pk (w : World) (B : Nat) (h : Hd) (l : ByteArray) (x : Seen) : Prop := Cells w B (pkCells h l x) 156

set_option maxRecDepth 100000 in
set_option maxHeartbeats 2000000 in
theorem p_between (B : Nat) (h : Hd) (l : ByteArray) (x : Seen) (a b : Int) (w : World) (hC : Pk w B h l x) :
    Calls Tryz.prog 180 #[.pointer (some ⟨B, 0, none⟩), .int .u16 a, .int .u16 b] w (fun e w' => e = .returned (.tuple #[]) ∧ But B w w' ∧ Pk w' B h l ⟨⟨h.p, h.s, a, h.d, b⟩, x.k, x.f, x.q, x.l⟩) := by
  obtain ⟨h0, h1, h2, h3, h4, h5, h6, h7⟩ := h
  obtain ⟨⟨x0, x1, x2, x3, x4⟩, x5, x6, x7, x8⟩ := x
  unfold Pk pkCells at hC
  unfold Pk pkCells
  simp only at hC ⊢
  have hD := hC.drew
  have p4 : w.cell? ⟨B, 4, none⟩ = some (.int .u8 h4) := hC.at_ 4
  have p5 : w.cell? ⟨B, 5, none⟩ = some (.int .u32 h5) := hC.at_ 5
  have p6 : w.cell? ⟨B, 6, none⟩ = some (.int .u32 h6) := hC.at_ 6
  have hE := ((((hD.set_ 9 (.int .u8 h4)).set_ 10 (.int .u32 h5)).set_ 11 (.int .u16 a)).set_ 12 (.int .u32 h6)).set_ 13 (.int .u16 b)
  have hB : But B w (((((w.drew.setCell ⟨B, 9, none⟩ (.int .u8 h4)).setCell ⟨B, 10, none⟩ (.int .u32 h5)).setCell ⟨B, 11, none⟩ (.int .u16 a)).setCell ⟨B, 12, none⟩ (.int .u32 h6)).setCell ⟨B, 13, none⟩ (.int .u16 b)) := (((((But.refl B w).drew.set 9 _).set 10 _).set 11 _).set 12 _).set 13 _
  have HC := hide hC; have HD := hide hD; have HE := hide hE; have HB := hide hB
  clear hC hE hB
  go_enter Tryz.func180, Tryz.ntmps180
  go_wp2_with fail
  go_still_tail 24, (by kernel_rfl)
  change wpList _ _ _ _ _ w.drew
  clear hD
  have hD := HD.out
  generalize w.drew = w2 at *
  have c9 : w2.cell? ⟨B, 9, none⟩ = some (.int .u8 x0) := hD.at_ 9
  have c10 : w2.cell? ⟨B, 10, none⟩ = some (.int .u32 x1) := hD.at_ 10
  have c11 : w2.cell? ⟨B, 11, none⟩ = some (.int .u16 x2) := hD.at_ 11
  have c12 : w2.cell? ⟨B, 12, none⟩ = some (.int .u32 x3) := hD.at_ 12
  have c13 : w2.cell? ⟨B, 13, none⟩ = some (.int .u16 x4) := hD.at_ 13
  have f9 := hD.free 9; have f10 := hD.free 10; have f11 := hD.free 11; have f12 := hD.free 12; have f13 := hD.free 13
  clear hD
  go_wp2
  (try simp only [Exit.inBlock, Exit.then]); refine bodyPost_end (v := .tuple #[]) (by simp [results, Tryz.results180, go_sem]; try rfl) rfl ?_
  exact ⟨rfl, HB.out, HE.out⟩
end Go.Proofs.YtilfcikhipadpaaGreatDoor
end

section
/- What a packet carries is looked at: TCP, UDP. -/
set_option linter.unusedVariables false
set_option linter.unusedSimpArgs false
namespace Go.Proofs.YtilfcikhipadpaaGreatDoor
open Go.RowKit
attribute [local go_sem] Oper.semAt_some

/-- what is seen ahead of the look -/
def seen0 (h : Hd) : Seen := ⟨⟨0, 0, 0, 0, 0⟩, 2, 0, false, h.l⟩
/-- what a look's contract says: the reason, and, where there is none, what is seen -/
def Looked (B : Nat) (h : Hd) (l : ByteArray) (r : Int) (x : Seen) (w : World) (e : Ending) (w' : World) : Prop := e = .returned (.int .i64 r) ∧ But B w w' ∧ (r = 0 → Pk w' B h l x)

set_option maxRecDepth 100000 in
set_option maxHeartbeats 2000000 in
theorem p_segment_no (B : Nat) (h : Hd) (l : ByteArray) (x : Seen) (w : World) (hC : Pk w B h l (seen0 h)) (hl : l.size ≤ 140737488351232) (h6 : tcpIs l = false) :
    Calls Tryz.prog 126 #[.pointer (some ⟨B, 0, none⟩)] w (Looked B h l 7 x w) := by
  have c1 := fun W => t_Parse_no l W hl h6
  have p8 : w.cell? ⟨B, 8, none⟩ = some (.string l) := hC.at_ 8
  have C1 := hide c1
  clear c1 hC
  go_enter Tryz.func126, Tryz.ntmps126
  go_wp2_with fail
  (with_reducible refine (C1.out _).mono ?_)
  rintro e w1 ⟨rfl, b1⟩
  go_wp2_with fail
  go_ret
  exact ⟨rfl, (But.of_below b1).step (fresh_below _ _), fun e => absurd e (by decide)⟩

set_option maxRecDepth 100000 in
set_option maxHeartbeats 2000000 in
theorem p_segment_first (B : Nat) (h : Hd) (l : ByteArray) (g0 g1 g2 g3 g4 g5 g6 g7 g8 : Int) (g9 r : ByteArray) (w : World) (hC : Pk w B h l (seen0 h)) (hp : h.p = 6)
    (c1 : ∀ W, Calls Tryz.prog 179 #[.string l] W (Ret (.tuple #[.agg #[.int .u16 g0, .int .u16 g1, .int .u32 g2, .int .u32 g3, .int .u8 g4, .int .u8 g5, .int .u16 g6, .int .u16 g7, .int .u16 g8, .string g9], .string r, .bool true]) W)) (hk : bits .and .u8 g5 23 = 2) :
    Calls Tryz.prog 126 #[.pointer (some ⟨B, 0, none⟩)] w (Looked B h l 0 ⟨⟨6, h.s, g0, h.d, g1⟩, 1, g5, false, h.l⟩ w) := by
  have p8 : w.cell? ⟨B, 8, none⟩ = some (.string l) := hC.at_ 8
  have C1 := hide c1; have HC := hide hC
  have q1 : (bits .and .u8 g5 23 == 2) = true := by simpa using hk
  clear hk
  clear c1 hC
  go_enter Tryz.func126, Tryz.ntmps126
  go_wp2_with fail
  (with_reducible refine (C1.out _).mono ?_)
  rintro e w1 ⟨rfl, b1⟩
  have hne : w1.heap.size ≠ B := by have := HC.out.lt; have := b1.size; omega
  have d1 := Cells.new w1 #[.int .u16 g0, .int .u16 g1, .int .u32 g2, .int .u32 g3, .int .u8 g4, .int .u8 g5, .int .u16 g6, .int .u16 g7, .int .u16 g8, .string g9] 278
  have hP : Pk (w1.alloc (.cells #[.int .u16 g0, .int .u16 g1, .int .u32 g2, .int .u32 g3, .int .u8 g4, .int .u8 g5, .int .u16 g6, .int .u16 g7, .int .u16 g8, .string g9] 278)) B h l (seen0 h) := Cells.alloc (Cells.below b1 HC.out) _
  have hB : But B w (w1.alloc (.cells #[.int .u16 g0, .int .u16 g1, .int .u32 g2, .int .u32 g3, .int .u8 g4, .int .u8 g5, .int .u16 g6, .int .u16 g7, .int .u16 g8, .string g9] 278)) := (But.of_below b1).step (fresh_below _ _)
  have C2 := hide (fun a b => p_between B h l (seen0 h) a b _ hP)
  obtain ⟨xd1_0, xd1_1, xd1_2, xd1_3, xd1_4, xd1_5, xd1_6, xd1_7, xd1_8, xd1_9⟩ := d1.x10
  clear p8 hP
  have HB := hide hB; have HD := hide d1
  clear hB d1 b1
  go_wp2_with fail
  (with_reducible refine (C2.out _ _).mono ?_)
  rintro e w2 ⟨rfl, b2, hP⟩
  have d2 := b2.cells hne HD.out
  have hB2 := HB.out.trans b2
  unfold Pk pkCells seen0 at hP
  simp only [hp] at hP
  have n15 : w2.cell? ⟨B, 15, none⟩ = some (.int .u8 0) := hP.at_ 15
  have f15 := hP.free 15
  have hP3 := hP.set_ 15 (.int .u8 g5)
  have d3 := d2.other hne 15 (.int .u8 g5)
  have hB3 := hB2.set 15 (.int .u8 g5)
  have x2_5 : w2.cell? ⟨w1.heap.size, 5, none⟩ = some (.int .u8 g5) := d2.at_ 5
  have x3_5 : (w2.setCell ⟨B, 15, none⟩ (.int .u8 g5)).cell? ⟨w1.heap.size, 5, none⟩ = some (.int .u8 g5) := d3.at_ 5
  have n14 : (w2.setCell ⟨B, 15, none⟩ (.int .u8 g5)).cell? ⟨B, 14, none⟩ = some (.int .i64 2) := hP3.at_ 14
  have f14 := hP3.free 14
  have hP4 := hP3.set_ 14 (.int .i64 1)
  have hB4 := hB3.set 14 (.int .i64 1)
  have HP := hide hP4; have HB4 := hide hB4
  clear hP hP3 hP4 d2 d3 hB2 hB3 hB4 b2 HB HD xd1_0 xd1_1 xd1_2 xd1_3 xd1_4 xd1_5 xd1_6 xd1_7 xd1_8 xd1_9
  go_wp2_with fail
  go_ret
  exact ⟨rfl, HB4.out, fun _ => by unfold Pk pkCells; simp only [hp]; exact HP.out⟩

set_option maxRecDepth 100000 in
set_option maxHeartbeats 2000000 in
theorem p_segment_flow (B : Nat) (h : Hd) (l : ByteArray) (g0 g1 g2 g3 g4 g5 g6 g7 g8 : Int) (g9 r : ByteArray) (w : World) (hC : Pk w B h l (seen0 h)) (hp : h.p = 6)
    (c1 : ∀ W, Calls Tryz.prog 179 #[.string l] W (Ret (.tuple #[.agg #[.int .u16 g0, .int .u16 g1, .int .u32 g2, .int .u32 g3, .int .u8 g4, .int .u8 g5, .int .u16 g6, .int .u16 g7, .int .u16 g8, .string g9], .string r, .bool true]) W)) (hk : bits .and .u8 g5 23 ≠ 2) :
    Calls Tryz.prog 126 #[.pointer (some ⟨B, 0, none⟩)] w (Looked B h l 0 ⟨⟨6, h.s, g0, h.d, g1⟩, 2, g5, false, h.l⟩ w) := by
  have p8 : w.cell? ⟨B, 8, none⟩ = some (.string l) := hC.at_ 8
  have C1 := hide c1; have HC := hide hC
  have q1 : (bits .and .u8 g5 23 == 2) = false := by simpa using hk
  clear hk
  clear c1 hC
  go_enter Tryz.func126, Tryz.ntmps126
  go_wp2_with fail
  (with_reducible refine (C1.out _).mono ?_)
  rintro e w1 ⟨rfl, b1⟩
  have hne : w1.heap.size ≠ B := by have := HC.out.lt; have := b1.size; omega
  have d1 := Cells.new w1 #[.int .u16 g0, .int .u16 g1, .int .u32 g2, .int .u32 g3, .int .u8 g4, .int .u8 g5, .int .u16 g6, .int .u16 g7, .int .u16 g8, .string g9] 278
  have hP : Pk (w1.alloc (.cells #[.int .u16 g0, .int .u16 g1, .int .u32 g2, .int .u32 g3, .int .u8 g4, .int .u8 g5, .int .u16 g6, .int .u16 g7, .int .u16 g8, .string g9] 278)) B h l (seen0 h) := Cells.alloc (Cells.below b1 HC.out) _
  have hB : But B w (w1.alloc (.cells #[.int .u16 g0, .int .u16 g1, .int .u32 g2, .int .u32 g3, .int .u8 g4, .int .u8 g5, .int .u16 g6, .int .u16 g7, .int .u16 g8, .string g9] 278)) := (But.of_below b1).step (fresh_below _ _)
  have C2 := hide (fun a b => p_between B h l (seen0 h) a b _ hP)
  obtain ⟨xd1_0, xd1_1, xd1_2, xd1_3, xd1_4, xd1_5, xd1_6, xd1_7, xd1_8, xd1_9⟩ := d1.x10
  clear p8 hP
  have HB := hide hB; have HD := hide d1
  clear hB d1 b1
  go_wp2_with fail
  (with_reducible refine (C2.out _ _).mono ?_)
  rintro e w2 ⟨rfl, b2, hP⟩
  have d2 := b2.cells hne HD.out
  have hB2 := HB.out.trans b2
  unfold Pk pkCells seen0 at hP
  simp only [hp] at hP
  have n15 : w2.cell? ⟨B, 15, none⟩ = some (.int .u8 0) := hP.at_ 15
  have f15 := hP.free 15
  have hP3 := hP.set_ 15 (.int .u8 g5)
  have d3 := d2.other hne 15 (.int .u8 g5)
  have hB3 := hB2.set 15 (.int .u8 g5)
  have x2_5 : w2.cell? ⟨w1.heap.size, 5, none⟩ = some (.int .u8 g5) := d2.at_ 5
  have x3_5 : (w2.setCell ⟨B, 15, none⟩ (.int .u8 g5)).cell? ⟨w1.heap.size, 5, none⟩ = some (.int .u8 g5) := d3.at_ 5
  have HP := hide hP3; have HB4 := hide hB3
  clear hP hP3 d2 d3 hB2 hB3 b2 HB HD xd1_0 xd1_1 xd1_2 xd1_3 xd1_4 xd1_5 xd1_6 xd1_7 xd1_8 xd1_9
  go_wp2_with fail
  go_ret
  exact ⟨rfl, HB4.out, fun _ => by unfold Pk pkCells; simp only [hp]; exact HP.out⟩

theorem p_segment (B : Nat) (h : Hd) (l : ByteArray) (w : World) (hC : Pk w B h l (seen0 h)) (hl : l.size ≤ 140737488351232) (hp : h.p = 6) :
    Calls Tryz.prog 126 #[.pointer (some ⟨B, 0, none⟩)] w (Looked B h l (loadWhy 6 l) (loadSeen h l) w) := by
  unfold loadWhy loadSeen
  rw [if_pos rfl, if_pos hp]
  by_cases h6 : tcpIs l = true
  · rw [if_pos h6]
    have c1 := fun W => t_Parse_yes l W hl h6
    by_cases hk : bits .and .u8 (segOf l).f 23 = 2
    · rw [if_pos hk]
      exact p_segment_first B h l _ _ _ _ _ _ _ _ _ _ _ w hC hp c1 hk
    · rw [if_neg hk]
      exact p_segment_flow B h l _ _ _ _ _ _ _ _ _ _ _ w hC hp c1 hk
  · rw [if_neg h6]
    exact p_segment_no B h l _ w hC hl (by simpa using h6)
end Go.Proofs.YtilfcikhipadpaaGreatDoor
end

section
/- icmp over this program: Parse of what is one. -/
set_option linter.unusedVariables false
namespace Go.Proofs.YtilfcikhipadpaaGreatDoor
open Go.RowKit
attribute [local go_sem] Oper.semAt_some

set_option maxRecDepth 100000 in
set_option maxHeartbeats 4000000 in
theorem i_Parse_yes (s : ByteArray) (w : World) (hs : s.size ≤ 140737488351232) (h : 8 ≤ s.size) :
    Calls Tryz.prog 136 #[.string s] w (Ret (.tuple #[.agg #[.int .u8 (msgOf s).t, .int .u8 (msgOf s).c, .int .u16 (msgOf s).n, .string (msgOf s).r, .string (msgOf s).d], .bool true]) w) := by
  have c1 := fun w => Get16 s 2 w (reach_max hs) (by omega)
  have hh : has s.size 2 2 = true := has_true (by omega) (by omega)
  have hn : get16 (L s) 2 = (msgOf s).n := by rw [show (2 : Int) = ((2 : Nat) : Int) from rfl, get16_nat (by rw [L_length]; omega)]; rfl
  rw [hh, hn] at c1
  have e0 : (((s[0]'(by omega)).toNat : Nat) : Int) = (msgOf s).t := by rw [getElem_L s 0 (by omega)]; rfl
  have e1 : (((s[1]'(by omega)).toNat : Nat) : Int) = (msgOf s).c := by rw [getElem_L s 1 (by omega)]; rfl
  have e2 : s.extract 4 8 = (msgOf s).r := rfl
  have e3 : s.extract 8 s.size = (msgOf s).d := rfl
  obtain ⟨m, hm⟩ : ∃ m, m = msgOf s := ⟨_, rfl⟩
  rw [← hm] at c1 e0 e1 e2 e3 ⊢
  have q2 : ¬ (s.size : Int) < 8 := by omega
  have i1 : (4 : Int) ≤ (s.size : Int) := by omega
  have i2 : (8 : Int) ≤ (s.size : Int) := by omega
  have i3 : (1 : Int) < (s.size : Int) := by omega
  have i4 : (0 : Int) < (s.size : Int) := by omega
  have i5 : 0 < s.size := by omega
  have i6 : 1 < s.size := by omega
  have C1 := hide c1; have E0 := hide e0; have E1 := hide e1; have E2 := hide e2; have E3 := hide e3
  clear c1 e0 e1 e2 e3 hh hn hm
  go_enter Tryz.func136, Tryz.ntmps136
  have d0 := Cells.new w #[.int .u8 0, .int .u8 0, .int .u16 0, .string { data := #[] }, .string { data := #[] }] 166
  go_wp2_with fail
  (with_reducible refine (C1.out _).mono ?_)
  rintro e w1 ⟨rfl, b1⟩
  replace d0 := Cells.up d0 (by (repeat' (first | with_reducible exact Below.refl _ _ | with_reducible refine bstep ?_ (fresh_below _ _) | with_reducible refine Below.drew ?_))) b1
  replace b1 : Below w.heap.size w w1 := by (refine bstep ?_ b1); (repeat' (first | with_reducible exact Below.refl _ _ | with_reducible refine Below.setCell ?_ (by first | exact Nat.le_refl _ | (dsimp only; omega)) _ | with_reducible refine bstep ?_ (fresh_below _ _) | with_reducible refine Below.drew ?_))
  have z1 : w.heap.size ≤ w1.heap.size := b1.size
  go_wp2_with fail
  have d1 : Cells w1.drew w.heap.size #[.int .u8 0, .int .u8 0, .int .u16 0, .string { data := #[] }, .string { data := #[] }] 166 := d0
  have b2 := b1.drew
  go_still_tail 10, (by kernel_rfl)
  change wpList _ _ _ _ _ w1.drew
  generalize w1.drew = w2 at *
  obtain ⟨xd1_0, xd1_1, xd1_2, xd1_3, xd1_4⟩ := d1.x5
  obtain ⟨yd1_0, yd1_1, yd1_2, yd1_3, yd1_4⟩ := d1.y5
  go_wp2
  (try simp only [Exit.inBlock, Exit.then]); refine bodyPost_ret (by simp [results, Tryz.results136, go_sem, *]; try rfl) rfl ?_
  exact ⟨by rw [← E0.out, ← E1.out, ← E2.out, ← E3.out], (by (repeat' (first | exact b2 | with_reducible exact Below.refl _ _ | with_reducible refine Below.setCell ?_ (by first | exact Nat.le_refl _ | (dsimp only; omega)) _ | with_reducible refine bstep ?_ bq0 | with_reducible refine bstep ?_ bq1 | with_reducible refine bstep ?_ bq2 | with_reducible refine bstep ?_ bq3 | with_reducible refine bstep ?_ bq4 | with_reducible refine bstep ?_ bq5 | with_reducible refine bstep ?_ (fresh_below _ _) | with_reducible refine Below.drew ?_)))⟩

end Go.Proofs.YtilfcikhipadpaaGreatDoor
end

section
/- What a packet carries is looked at: UDP, ICMP; and the look. -/
set_option linter.unusedVariables false
set_option linter.unusedSimpArgs false
namespace Go.Proofs.YtilfcikhipadpaaGreatDoor
open Go.RowKit
attribute [local go_sem] Oper.semAt_some

set_option maxRecDepth 100000 in
set_option maxHeartbeats 2000000 in
theorem p_datagram_no (B : Nat) (h : Hd) (l : ByteArray) (x : Seen) (w : World) (hC : Pk w B h l (seen0 h)) (hl : l.size ≤ 140737488351232) (h6 : udpIs l = false) :
    Calls Tryz.prog 127 #[.pointer (some ⟨B, 0, none⟩)] w (Looked B h l 7 x w) := by
  have c1 := fun W => udp_Parse_no l W (reach_max hl) h6
  unfold udpNone at c1
  have p8 : w.cell? ⟨B, 8, none⟩ = some (.string l) := hC.at_ 8
  have C1 := hide c1
  clear c1 hC
  go_enter Tryz.func127, Tryz.ntmps127
  go_wp2_with fail
  (with_reducible refine (C1.out _).mono ?_)
  rintro e w1 ⟨rfl, b1⟩
  go_wp2_with fail
  go_ret
  exact ⟨rfl, (But.of_below b1).step (fresh_below _ _), fun e => absurd e (by decide)⟩
set_option maxRecDepth 100000 in
set_option maxHeartbeats 2000000 in
theorem p_datagram_yes (B : Nat) (h : Hd) (l : ByteArray) (g0 g1 g2 g3 : Int) (r : ByteArray) (w : World) (hC : Pk w B h l (seen0 h)) (hp : h.p = 17)
    (c1 : ∀ W, Calls Tryz.prog 181 #[.string l] W (Ret (.tuple #[.agg #[.int .u16 g0, .int .u16 g1, .int .u16 g2, .int .u16 g3], .string r, .bool true]) W)) :
    Calls Tryz.prog 127 #[.pointer (some ⟨B, 0, none⟩)] w (Looked B h l 0 ⟨⟨17, h.s, g0, h.d, g1⟩, 2, 0, false, h.l⟩ w) := by
  have p8 : w.cell? ⟨B, 8, none⟩ = some (.string l) := hC.at_ 8
  have C1 := hide c1; have HC := hide hC
  clear c1 hC
  go_enter Tryz.func127, Tryz.ntmps127
  go_wp2_with fail
  (with_reducible refine (C1.out _).mono ?_)
  rintro e w1 ⟨rfl, b1⟩
  have d1 := Cells.new w1 #[.int .u16 g0, .int .u16 g1, .int .u16 g2, .int .u16 g3] 282
  have hP : Pk (w1.alloc (.cells #[.int .u16 g0, .int .u16 g1, .int .u16 g2, .int .u16 g3] 282)) B h l (seen0 h) := Cells.alloc (Cells.below b1 HC.out) _
  have hB : But B w (w1.alloc (.cells #[.int .u16 g0, .int .u16 g1, .int .u16 g2, .int .u16 g3] 282)) := (But.of_below b1).step (fresh_below _ _)
  have C2 := hide (fun a b => p_between B h l (seen0 h) a b _ hP)
  obtain ⟨xd1_0, xd1_1, xd1_2, xd1_3⟩ := d1.x4
  clear p8 hP d1 b1
  have HB := hide hB
  clear hB
  go_wp2_with fail
  (with_reducible refine (C2.out _ _).mono ?_)
  rintro e w2 ⟨rfl, b2, hP⟩
  have hB2 := HB.out.trans b2
  unfold seen0 at hP
  rw [hp] at hP
  have HP := hide hP; have HB2 := hide hB2
  clear hP hB2 b2 HB xd1_0 xd1_1 xd1_2 xd1_3
  go_wp2_with fail
  go_ret
  exact ⟨rfl, HB2.out, fun _ => HP.out⟩
theorem p_datagram (B : Nat) (h : Hd) (l : ByteArray) (w : World) (hC : Pk w B h l (seen0 h)) (hl : l.size ≤ 140737488351232) (hp : h.p = 17) :
    Calls Tryz.prog 127 #[.pointer (some ⟨B, 0, none⟩)] w (Looked B h l (loadWhy 17 l) (loadSeen h l) w) := by
  unfold loadWhy loadSeen
  rw [if_neg (show ¬ (17 : Int) = 6 by decide), if_pos (show (17 : Int) = 17 from rfl), if_neg (show ¬ h.p = 6 by omega), if_pos hp]
  by_cases h6 : udpIs l = true
  · rw [if_pos h6]
    exact p_datagram_yes B h l _ _ _ _ _ w hC hp (fun W => udp_Parse_yes l W (reach_max hl) h6)
  · rw [if_neg h6]
    exact p_datagram_no B h l _ w hC hl (by simpa using h6)

set_option maxRecDepth 100000 in
set_option maxHeartbeats 2000000 in
theorem p_message_no (B : Nat) (h : Hd) (l : ByteArray) (x : Seen) (w : World) (hC : Pk w B h l (seen0 h)) (h8 : l.size < 8) :
    Calls Tryz.prog 128 #[.pointer (some ⟨B, 0, none⟩)] w (Looked B h l 7 x w) := by
  have c1 := fun W => i_Parse_no l W h8
  have p8 : w.cell? ⟨B, 8, none⟩ = some (.string l) := hC.at_ 8
  have C1 := hide c1
  clear c1 hC
  go_enter Tryz.func128, Tryz.ntmps128
  go_wp2_with fail
  (with_reducible refine (C1.out _).mono ?_)
  rintro e w1 ⟨rfl, b1⟩
  go_wp2_with fail
  go_ret
  exact ⟨rfl, (But.of_below b1).step (fresh_below _ _), fun e => absurd e (by decide)⟩

set_option maxRecDepth 100000 in
set_option maxHeartbeats 2000000 in
theorem p_message_ask (B : Nat) (h : Hd) (l : ByteArray) (m0 m1 m2 : Int) (m3 m4 : ByteArray) (id : Int) (qi : Bool) (w0 w : World) (K0 : Kinds w0) (hb : Below w0.heap.size w0 w) (hn : w0.heap.size ≤ B) (hC : Pk w B h l (seen0 h)) (hp : h.p = 1)
    (c1 : ∀ W, Calls Tryz.prog 136 #[.string l] W (Ret (.tuple #[.agg #[.int .u8 m0, .int .u8 m1, .int .u16 m2, .string m3, .string m4], .bool true]) W))
    (c2 : ∀ W, Kinds W → Calls Tryz.prog 182 #[.agg #[.int .u8 m0, .int .u8 m1, .int .u16 m2, .string m3, .string m4]] W (Ret (.tuple #[.bool true, .bool qi]) W))
    (c3 : ∀ W, Calls Tryz.prog 183 #[.agg #[.int .u8 m0, .int .u8 m1, .int .u16 m2, .string m3, .string m4]] W (Ret (.int .u16 id) W)) :
    Calls Tryz.prog 128 #[.pointer (some ⟨B, 0, none⟩)] w (Looked B h l 0 ⟨⟨1, h.s, id, h.d, 0⟩, 2, 0, true, h.l⟩ w) := by
  have p8 : w.cell? ⟨B, 8, none⟩ = some (.string l) := hC.at_ 8
  have hlt := hC.lt
  have KK : ∀ W, But B w W → Kinds W := fun W hW => K0.below (hb.trans (hW.below hn (Nat.le_of_lt hlt)))
  have C1 := hide c1; have C2 := hide c2; have HC := hide hC; have HK := hide KK; have HL := hide hlt
  clear c1 c2 hC KK hlt K0 hb hn
  have C3 := hide c3
  clear c3
  go_enter Tryz.func128, Tryz.ntmps128
  go_wp2_with fail
  (with_reducible refine (C1.out _).mono ?_)
  rintro e w1 ⟨rfl, b1⟩
  have hne : w1.heap.size ≠ B := by have := HL.out; have := b1.size; omega
  have d1 := Cells.new w1 #[.int .u8 m0, .int .u8 m1, .int .u16 m2, .string m3, .string m4] 166
  have hP : Pk (w1.alloc (.cells #[.int .u8 m0, .int .u8 m1, .int .u16 m2, .string m3, .string m4] 166)) B h l (seen0 h) := Cells.alloc (Cells.below b1 HC.out) _
  have hB : But B w (w1.alloc (.cells #[.int .u8 m0, .int .u8 m1, .int .u16 m2, .string m3, .string m4] 166)) := (But.of_below b1).step (fresh_below _ _)
  obtain ⟨xd1_0, xd1_1, xd1_2, xd1_3, xd1_4⟩ := d1.x5
  have HB := hide hB; have HD := hide d1; have HP := hide hP
  clear hB d1 b1 p8 hP
  go_wp2_with fail
  (with_reducible refine (C2.out _ (HK.out _ HB.out)).mono ?_)
  rintro e w2 ⟨rfl, b2⟩
  have d2 := Cells.below b2 HD.out
  have hP2 : Pk w2 B h l (seen0 h) := Cells.below b2 HP.out
  have hB2 := HB.out.step b2
  clear xd1_0 xd1_1 xd1_2 xd1_3 xd1_4 HB HD HP
  unfold Pk pkCells seen0 at hP2
  simp only at hP2
  have n16 : w2.cell? ⟨B, 16, none⟩ = some (.bool false) := hP2.at_ 16
  have f16 := hP2.free 16
  have hP3 : Pk (w2.setCell ⟨B, 16, none⟩ (.bool true)) B h l ⟨⟨0, 0, 0, 0, 0⟩, 2, 0, true, h.l⟩ := hP2.set_ 16 (.bool true)
  have d3 := d2.other hne 16 (.bool true)
  have hB3 := hB2.set 16 (.bool true)
  obtain ⟨xd3_0, xd3_1, xd3_2, xd3_3, xd3_4⟩ := d3.x5
  have HB := hide hB3; have HD := hide d3; have HP := hide hP3
  clear hB2 hB3 d2 d3 hP2 hP3 b2
  go_wp2_with fail
  (with_reducible refine (C3.out _).mono ?_)
  rintro e w3 ⟨rfl, b3⟩
  have hP4 : Pk w3 B h l ⟨⟨0, 0, 0, 0, 0⟩, 2, 0, true, h.l⟩ := Cells.below b3 HP.out
  have hB4 := HB.out.step b3
  have C4 := hide (fun a b => p_between B h l _ a b _ hP4)
  have HB4 := hide hB4
  clear hP4 hB4 b3 HB HP HD xd3_0 xd3_1 xd3_2 xd3_3 xd3_4 n16 f16
  go_wp2_with fail
  (with_reducible refine (C4.out _ _).mono ?_)
  rintro e w4 ⟨rfl, b4, hP⟩
  have hB5 := HB4.out.trans b4
  rw [hp] at hP
  have HP := hide hP; have HB5 := hide hB5
  clear hP hB5 b4 HB4
  go_wp2_with fail
  go_ret
  exact ⟨rfl, HB5.out, fun _ => HP.out⟩

set_option maxRecDepth 100000 in
set_option maxHeartbeats 2000000 in
theorem p_message_told (B : Nat) (h : Hd) (l : ByteArray) (m0 m1 m2 : Int) (m3 m4 : ByteArray) (id : Int) (w0 w : World) (K0 : Kinds w0) (hb : Below w0.heap.size w0 w) (hn : w0.heap.size ≤ B) (hC : Pk w B h l (seen0 h)) (hp : h.p = 1)
    (c1 : ∀ W, Calls Tryz.prog 136 #[.string l] W (Ret (.tuple #[.agg #[.int .u8 m0, .int .u8 m1, .int .u16 m2, .string m3, .string m4], .bool true]) W))
    (c2 : ∀ W, Kinds W → Calls Tryz.prog 182 #[.agg #[.int .u8 m0, .int .u8 m1, .int .u16 m2, .string m3, .string m4]] W (Ret (.tuple #[.bool false, .bool true]) W))
    (c3 : ∀ W, Calls Tryz.prog 183 #[.agg #[.int .u8 m0, .int .u8 m1, .int .u16 m2, .string m3, .string m4]] W (Ret (.int .u16 id) W)) :
    Calls Tryz.prog 128 #[.pointer (some ⟨B, 0, none⟩)] w (Looked B h l 0 ⟨⟨1, h.s, 0, h.d, id⟩, 2, 0, false, h.l⟩ w) := by
  have p8 : w.cell? ⟨B, 8, none⟩ = some (.string l) := hC.at_ 8
  have hlt := hC.lt
  have KK : ∀ W, But B w W → Kinds W := fun W hW => K0.below (hb.trans (hW.below hn (Nat.le_of_lt hlt)))
  have C1 := hide c1; have C2 := hide c2; have HC := hide hC; have HK := hide KK; have HL := hide hlt
  clear c1 c2 hC KK hlt K0 hb hn
  have C3 := hide c3
  clear c3
  go_enter Tryz.func128, Tryz.ntmps128
  go_wp2_with fail
  (with_reducible refine (C1.out _).mono ?_)
  rintro e w1 ⟨rfl, b1⟩
  have hne : w1.heap.size ≠ B := by have := HL.out; have := b1.size; omega
  have d1 := Cells.new w1 #[.int .u8 m0, .int .u8 m1, .int .u16 m2, .string m3, .string m4] 166
  have hP : Pk (w1.alloc (.cells #[.int .u8 m0, .int .u8 m1, .int .u16 m2, .string m3, .string m4] 166)) B h l (seen0 h) := Cells.alloc (Cells.below b1 HC.out) _
  have hB : But B w (w1.alloc (.cells #[.int .u8 m0, .int .u8 m1, .int .u16 m2, .string m3, .string m4] 166)) := (But.of_below b1).step (fresh_below _ _)
  obtain ⟨xd1_0, xd1_1, xd1_2, xd1_3, xd1_4⟩ := d1.x5
  have HB := hide hB; have HD := hide d1; have HP := hide hP
  clear hB d1 b1 p8 hP
  go_wp2_with fail
  (with_reducible refine (C2.out _ (HK.out _ HB.out)).mono ?_)
  rintro e w2 ⟨rfl, b2⟩
  have d2 := Cells.below b2 HD.out
  have hP2 : Pk w2 B h l (seen0 h) := Cells.below b2 HP.out
  have hB2 := HB.out.step b2
  clear xd1_0 xd1_1 xd1_2 xd1_3 xd1_4 HB HD HP
  obtain ⟨xd2_0, xd2_1, xd2_2, xd2_3, xd2_4⟩ := d2.x5
  have HB := hide hB2; have HP := hide hP2
  clear hB2 d2 hP2 b2
  go_wp2_with fail
  (with_reducible refine (C3.out _).mono ?_)
  rintro e w3 ⟨rfl, b3⟩
  have hP4 : Pk w3 B h l (seen0 h) := Cells.below b3 HP.out
  have hB4 := HB.out.step b3
  have C4 := hide (fun a b => p_between B h l _ a b _ hP4)
  have HB4 := hide hB4
  clear hP4 hB4 b3 HB HP xd2_0 xd2_1 xd2_2 xd2_3 xd2_4
  go_wp2_with fail
  (with_reducible refine (C4.out _ _).mono ?_)
  rintro e w4 ⟨rfl, b4, hP⟩
  have hB5 := HB4.out.trans b4
  unfold seen0 at hP
  rw [hp] at hP
  have HP := hide hP; have HB5 := hide hB5
  clear hP hB5 b4 HB4
  go_wp2_with fail
  go_ret
  exact ⟨rfl, HB5.out, fun _ => HP.out⟩

set_option maxRecDepth 100000 in
set_option maxHeartbeats 2000000 in
theorem p_message_err (B : Nat) (h : Hd) (l : ByteArray) (m0 m1 m2 : Int) (m3 m4 : ByteArray) (id : Int) (x : Seen) (w0 w : World) (K0 : Kinds w0) (hb : Below w0.heap.size w0 w) (hn : w0.heap.size ≤ B) (hC : Pk w B h l (seen0 h)) (hp : h.p = 1)
    (c1 : ∀ W, Calls Tryz.prog 136 #[.string l] W (Ret (.tuple #[.agg #[.int .u8 m0, .int .u8 m1, .int .u16 m2, .string m3, .string m4], .bool true]) W))
    (c2 : ∀ W, Kinds W → Calls Tryz.prog 182 #[.agg #[.int .u8 m0, .int .u8 m1, .int .u16 m2, .string m3, .string m4]] W (Ret (.tuple #[.bool false, .bool false]) W))
    (c3 : ∀ W, Kinds W → Calls Tryz.prog 184 #[.agg #[.int .u8 m0, .int .u8 m1, .int .u16 m2, .string m3, .string m4]] W (Ret (.bool true) W)) :
    Calls Tryz.prog 128 #[.pointer (some ⟨B, 0, none⟩)] w (Looked B h l 0 ⟨⟨1, h.s, 0, h.d, 0⟩, 3, 0, false, h.l⟩ w) := by
  have p8 : w.cell? ⟨B, 8, none⟩ = some (.string l) := hC.at_ 8
  have hlt := hC.lt
  have KK : ∀ W, But B w W → Kinds W := fun W hW => K0.below (hb.trans (hW.below hn (Nat.le_of_lt hlt)))
  have C1 := hide c1; have C2 := hide c2; have HC := hide hC; have HK := hide KK; have HL := hide hlt
  clear c1 c2 hC KK hlt K0 hb hn
  have C3 := hide c3
  clear c3
  go_enter Tryz.func128, Tryz.ntmps128
  go_wp2_with fail
  (with_reducible refine (C1.out _).mono ?_)
  rintro e w1 ⟨rfl, b1⟩
  have hne : w1.heap.size ≠ B := by have := HL.out; have := b1.size; omega
  have d1 := Cells.new w1 #[.int .u8 m0, .int .u8 m1, .int .u16 m2, .string m3, .string m4] 166
  have hP : Pk (w1.alloc (.cells #[.int .u8 m0, .int .u8 m1, .int .u16 m2, .string m3, .string m4] 166)) B h l (seen0 h) := Cells.alloc (Cells.below b1 HC.out) _
  have hB : But B w (w1.alloc (.cells #[.int .u8 m0, .int .u8 m1, .int .u16 m2, .string m3, .string m4] 166)) := (But.of_below b1).step (fresh_below _ _)
  obtain ⟨xd1_0, xd1_1, xd1_2, xd1_3, xd1_4⟩ := d1.x5
  have HB := hide hB; have HD := hide d1; have HP := hide hP
  clear hB d1 b1 p8 hP
  go_wp2_with fail
  (with_reducible refine (C2.out _ (HK.out _ HB.out)).mono ?_)
  rintro e w2 ⟨rfl, b2⟩
  have d2 := Cells.below b2 HD.out
  have hP2 : Pk w2 B h l (seen0 h) := Cells.below b2 HP.out
  have hB2 := HB.out.step b2
  clear xd1_0 xd1_1 xd1_2 xd1_3 xd1_4 HB HD HP
  obtain ⟨xd2_0, xd2_1, xd2_2, xd2_3, xd2_4⟩ := d2.x5
  have HB := hide hB2; have HP := hide hP2
  clear hB2 d2 hP2 b2
  go_wp2_with fail
  (with_reducible refine (C3.out _ (HK.out _ HB.out)).mono ?_)
  rintro e w3 ⟨rfl, b3⟩
  have hP4 : Pk w3 B h l (seen0 h) := Cells.below b3 HP.out
  have hB4 := HB.out.step b3
  unfold Pk pkCells seen0 at hP4
  simp only at hP4
  have n14 : w3.cell? ⟨B, 14, none⟩ = some (.int .i64 2) := hP4.at_ 14
  have f14 := hP4.free 14
  have hP5 : Pk (w3.setCell ⟨B, 14, none⟩ (.int .i64 3)) B h l ⟨⟨0, 0, 0, 0, 0⟩, 3, 0, false, h.l⟩ := hP4.set_ 14 (.int .i64 3)
  have hB5 := hB4.set 14 (.int .i64 3)
  have C4 := hide (fun a b => p_between B h l _ a b _ hP5)
  have HB4 := hide hB5
  clear hP4 hB4 hP5 hB5 b3 HB HP xd2_0 xd2_1 xd2_2 xd2_3 xd2_4
  go_wp2_with fail
  (with_reducible refine (C4.out _ _).mono ?_)
  rintro e w4 ⟨rfl, b4, hP⟩
  have hB5 := HB4.out.trans b4
  rw [hp] at hP
  have HP := hide hP; have HB5 := hide hB5
  clear hP hB5 b4 HB4
  go_wp2_with fail
  go_ret
  exact ⟨rfl, HB5.out, fun _ => HP.out⟩

set_option maxRecDepth 100000 in
set_option maxHeartbeats 2000000 in
theorem p_message_none (B : Nat) (h : Hd) (l : ByteArray) (m0 m1 m2 : Int) (m3 m4 : ByteArray) (id : Int) (x : Seen) (w0 w : World) (K0 : Kinds w0) (hb : Below w0.heap.size w0 w) (hn : w0.heap.size ≤ B) (hC : Pk w B h l (seen0 h)) (hp : h.p = 1)
    (c1 : ∀ W, Calls Tryz.prog 136 #[.string l] W (Ret (.tuple #[.agg #[.int .u8 m0, .int .u8 m1, .int .u16 m2, .string m3, .string m4], .bool true]) W))
    (c2 : ∀ W, Kinds W → Calls Tryz.prog 182 #[.agg #[.int .u8 m0, .int .u8 m1, .int .u16 m2, .string m3, .string m4]] W (Ret (.tuple #[.bool false, .bool false]) W))
    (c3 : ∀ W, Kinds W → Calls Tryz.prog 184 #[.agg #[.int .u8 m0, .int .u8 m1, .int .u16 m2, .string m3, .string m4]] W (Ret (.bool false) W)) :
    Calls Tryz.prog 128 #[.pointer (some ⟨B, 0, none⟩)] w (Looked B h l 6 x w) := by
  have p8 : w.cell? ⟨B, 8, none⟩ = some (.string l) := hC.at_ 8
  have hlt := hC.lt
  have KK : ∀ W, But B w W → Kinds W := fun W hW => K0.below (hb.trans (hW.below hn (Nat.le_of_lt hlt)))
  have C1 := hide c1; have C2 := hide c2; have HC := hide hC; have HK := hide KK; have HL := hide hlt
  clear c1 c2 hC KK hlt K0 hb hn
  have C3 := hide c3
  clear c3
  go_enter Tryz.func128, Tryz.ntmps128
  go_wp2_with fail
  (with_reducible refine (C1.out _).mono ?_)
  rintro e w1 ⟨rfl, b1⟩
  have hne : w1.heap.size ≠ B := by have := HL.out; have := b1.size; omega
  have d1 := Cells.new w1 #[.int .u8 m0, .int .u8 m1, .int .u16 m2, .string m3, .string m4] 166
  have hP : Pk (w1.alloc (.cells #[.int .u8 m0, .int .u8 m1, .int .u16 m2, .string m3, .string m4] 166)) B h l (seen0 h) := Cells.alloc (Cells.below b1 HC.out) _
  have hB : But B w (w1.alloc (.cells #[.int .u8 m0, .int .u8 m1, .int .u16 m2, .string m3, .string m4] 166)) := (But.of_below b1).step (fresh_below _ _)
  obtain ⟨xd1_0, xd1_1, xd1_2, xd1_3, xd1_4⟩ := d1.x5
  have HB := hide hB; have HD := hide d1; have HP := hide hP
  clear hB d1 b1 p8 hP
  go_wp2_with fail
  (with_reducible refine (C2.out _ (HK.out _ HB.out)).mono ?_)
  rintro e w2 ⟨rfl, b2⟩
  have d2 := Cells.below b2 HD.out
  have hP2 : Pk w2 B h l (seen0 h) := Cells.below b2 HP.out
  have hB2 := HB.out.step b2
  clear xd1_0 xd1_1 xd1_2 xd1_3 xd1_4 HB HD HP
  obtain ⟨xd2_0, xd2_1, xd2_2, xd2_3, xd2_4⟩ := d2.x5
  have HB := hide hB2
  clear hB2 d2 hP2 b2
  go_wp2_with fail
  (with_reducible refine (C3.out _ (HK.out _ HB.out)).mono ?_)
  rintro e w3 ⟨rfl, b3⟩
  have HB4 := hide (HB.out.step b3)
  clear b3 HB xd2_0 xd2_1 xd2_2 xd2_3 xd2_4
  go_wp2_with fail
  go_ret
  exact ⟨rfl, HB4.out, fun e => absurd e (by decide)⟩

theorem p_message (B : Nat) (h : Hd) (l : ByteArray) (w0 w : World) (K0 : Kinds w0) (hb : Below w0.heap.size w0 w) (hn : w0.heap.size ≤ B) (hC : Pk w B h l (seen0 h)) (hl : l.size ≤ 140737488351232) (hp : h.p = 1) :
    Calls Tryz.prog 128 #[.pointer (some ⟨B, 0, none⟩)] w (Looked B h l (loadWhy 1 l) (loadSeen h l) w) := by
  unfold loadWhy loadSeen
  rw [if_neg (show ¬ (1 : Int) = 6 by decide), if_neg (show ¬ (1 : Int) = 17 by decide), if_pos (show (1 : Int) = 1 from rfl), if_neg (show ¬ h.p = 6 by omega), if_neg (show ¬ h.p = 17 by omega)]
  by_cases h8 : l.size < 8
  · rw [if_pos h8]
    exact p_message_no B h l _ w hC h8
  rw [if_neg h8]
  have ho := msgOf_ok hl
  have c1 := fun W => i_Parse_yes l W hl (by omega)
  have c2 := fun W K => i_Query (msgOf l) W ho K
  have c3 := fun W => i_ID (msgOf l) W ho
  have c4 := fun W K => i_Error (msgOf l) W ho K
  have hai : qAsk (msgOf l) = true → qIs (msgOf l) = true := by
    unfold qAsk qIs; simp; intro a b; exact ⟨a, Or.inl b⟩
  by_cases ha : qAsk (msgOf l) = true
  · rw [if_pos (Or.inl (hai ha)), if_pos ha]
    rw [ha] at c2
    exact p_message_ask B h l _ _ _ _ _ _ _ w0 w K0 hb hn hC hp c1 c2 c3
  rw [if_neg ha]
  rw [show qAsk (msgOf l) = false from by simpa using ha] at c2
  by_cases hi : qIs (msgOf l) = true
  · rw [if_pos (Or.inl hi), if_pos hi]
    rw [hi] at c2
    exact p_message_told B h l _ _ _ _ _ _ w0 w K0 hb hn hC hp c1 c2 c3
  rw [if_neg hi]
  rw [show qIs (msgOf l) = false from by simpa using hi] at c2
  by_cases he : qErr (msgOf l) = true
  · rw [if_pos (Or.inr he)]
    rw [he] at c4
    exact p_message_err B h l _ _ _ _ _ 0 seenNone w0 w K0 hb hn hC hp c1 c2 c4
  · rw [if_neg (by simp [hi, he])]
    rw [show qErr (msgOf l) = false from by simpa using he] at c4
    exact p_message_none B h l _ _ _ _ _ 0 _ w0 w K0 hb hn hC hp c1 c2 c4
end Go.Proofs.YtilfcikhipadpaaGreatDoor
end
