/- Several texts of this claim, one behind the other. -/
import Derived.Test.YtedfdphapcanoaaGreatDoorM12
import Derived.Test.YtedfdphapcanoaaGreatDoorM15
import Derived.Test.YtedfdphapcanoaaGreatDoorM17

section
/- The chapter's box of one flow: what its calls do with its blocks. -/
set_option linter.unusedVariables false
namespace Go.Proofs.YtedfdphapcanoaaGreatDoor
open Go.RowKit Go.Lib Rx
variable {A : Amb}

@[reducible] def pt (n : Nat) : Value := .pointer (some ⟨n, 0, some 0⟩)
@[reducible] def rw1 (n : Nat) : Value := .slice (some ⟨n, 0, some 0⟩) 1 0
@[reducible] def nilS : Value := .slice none 0 0
def TabOK (A : Amb) : Prop := ∀ W, A.S W → Lasts W ∧ Wds W
def tmE (hM : TabOK A) (n : Nat) (fl st v : Int) (hv : timeV fl st = v := by decide) : Ev Tryz.prog A := does n (f := 85) (args := [.int .i64 fl, .int .i64 st]) (v := .int .i64 v) fun W h => by
  subst hv; exact tk_Timeout W fl st (hM W h).1
def myE (hM : TabOK A) (n : Nat) (p a b c d : Int) (hv : tupMay p b d = true := by decide) (hp : 0 ≤ p ∧ p ≤ 255 := by decide) : Ev Tryz.prog A := does n (f := 152) (args := [.agg #[.int .u8 p, .int .u32 a, .int .u16 b, .int .u32 c, .int .u16 d]]) (v := .bool true) fun W h => by
  have := tu_May W p a b c d (hM W h).2 hp
  rwa [hv] at this
/-! ### the box's blocks: the box, its table, the table's rule; the flow, what it holds -/
@[reducible] def aB (fl : Value) (now : Int) : Nat × Blk := (0, ([pt 1, fl, .int .i64 now], 97, false))
@[reducible] def tB : Nat × Blk := (1, ([.bool true, .int .u32 151587081, .int .u32 167772160, .int .i64 8, rw1 2], 220, false))
@[reducible] def rB : Nat × Blk := (2, ([.int .i64 2, .int .u8 0, .int .u32 0, .int .i64 0, .int .u32 0, .int .i64 0, .int .u32 0, .int .u16 1000, .int .u16 1007, .int .u32 0, .int .u16 0], 59, true))
@[reducible] def flL (st dl : Int) (h : Value) : List Value := [.int .u8 17, .int .u32 167772161, .int .u16 4000, .int .u32 134744072, .int .u16 53, .int .u8 17, .int .u32 134744072, .int .u16 53, .int .u32 151587081, .int .u16 1001, .int .i64 st, .int .i64 dl, h]
@[reducible] def fB (st dl : Int) (h : Nat) : Nat × Blk := (3, (flL st dl (rw1 h), 77, true))
@[reducible] def hB (h : Nat) : Nat × Blk := (h, ([.int .u32 151587081, .int .u16 1001, .int .u32 167772161, .int .u16 4000], 85, true))
theorem made_J : CallJ Tryz.prog A 8 [] [] 0 (pt 0) [aB nilS 0, tB, rB] 3 :=
  ((con (A := A) (P := Tryz.prog) (f := 8) (args := []) (sn := []) (nx := 0) (v := pt 6) (out := [(6, ([pt 5, nilS, .int .i64 0], 97, false)), (5, ([.bool true, .int .u32 151587081, .int .u32 167772160, .int .i64 8, rw1 16], 220, false)), (16, rB.2)]) (nx' := 17) []).re (d := 17) [6, 5, 16]).eq rfl rfl
/-- a flow behind a packet -/
theorem touch_0 (hM : TabOK A) (st dl now st' d q : Int) (back : Bool) (k : Nat) (hd : 0 ≤ dl ∧ dl ≤ 100000) (hn : 0 ≤ now ∧ now ≤ 100000) (h0 : 0 ≤ d ∧ d ≤ 1000)
    (h : ∀ (e1 : decide (dl < 0) = false) (e2 : decide (dl > 1099511635216) = false) (e3 : decide (now < 0) = false) (e4 : decide (now > 1099511627776) = false),
      CallJ Tryz.prog A 38 [.agg (flL st dl (rw1 0)).toArray, .bool back, .int .u8 0, .int .i64 now] [hB 0] 1 (.tuple #[.agg (flL st' (IntKind.wrap .i64 (now + d)) (rw1 7)).toArray, .int .i64 0]) [hB 0, hB 7] (1 + 9)) :
    CallJ Tryz.prog A 38 [.agg (flL st dl (rw1 0)).toArray, .bool back, .int .u8 0, .int .i64 now] [hB 0] 1 (.tuple #[.agg (flL st' (now + d) (rw1 1)).toArray, .int .i64 0]) [hB 0, hB 1] 2 := by
  have e5 : IntKind.wrap .i64 (now + d) = now + d := by unfold IntKind.wrap; simp [IntKind.bits, IntKind.signed]; omega
  have := h (by simp; omega) (by simp; omega) (by simp; omega) (by simp; omega)
  rw [e5] at this
  exact (this.re [7]).eq rfl rfl
theorem touch_1f (hM : TabOK A) (dl now : Int) (hd : 0 ≤ dl ∧ dl ≤ 100000) (hn : 0 ≤ now ∧ now ≤ 100000) :
    CallJ Tryz.prog A 38 [.agg (flL 1 dl (rw1 0)).toArray, .bool false, .int .u8 0, .int .i64 now] [hB 0] 1 (.tuple #[.agg (flL 1 (now + 120) (rw1 1)).toArray, .int .i64 0]) [hB 0, hB 1] 2 :=
  touch_0 hM 1 dl now 1 120 0 false 0 hd hn (by decide) fun e1 e2 e3 e4 => con [myE hM 8 17 167772161 4000 134744072 53, myE hM 13 17 134744072 53 151587081 1001, tmE hM 55 1 1 120, isF 65 e1, no 71 e2, isF 91 e3, no 95 e4, tmE hM 150 1 1 120, tmE hM 174 1 1 120]
theorem touch_1b (hM : TabOK A) (dl now : Int) (hd : 0 ≤ dl ∧ dl ≤ 100000) (hn : 0 ≤ now ∧ now ≤ 100000) :
    CallJ Tryz.prog A 38 [.agg (flL 1 dl (rw1 0)).toArray, .bool true, .int .u8 0, .int .i64 now] [hB 0] 1 (.tuple #[.agg (flL 2 (now + 300) (rw1 1)).toArray, .int .i64 0]) [hB 0, hB 1] 2 :=
  touch_0 hM 1 dl now 2 300 0 true 0 hd hn (by decide) fun e1 e2 e3 e4 => con [myE hM 8 17 167772161 4000 134744072 53, myE hM 13 17 134744072 53 151587081 1001, tmE hM 55 1 1 120, isF 65 e1, no 71 e2, isF 91 e3, no 95 e4, tmE hM 150 1 1 120, tmE hM 173 1 2 300]
theorem touch_2f (hM : TabOK A) (dl now : Int) (hd : 0 ≤ dl ∧ dl ≤ 100000) (hn : 0 ≤ now ∧ now ≤ 100000) :
    CallJ Tryz.prog A 38 [.agg (flL 2 dl (rw1 0)).toArray, .bool false, .int .u8 0, .int .i64 now] [hB 0] 1 (.tuple #[.agg (flL 2 (now + 300) (rw1 1)).toArray, .int .i64 0]) [hB 0, hB 1] 2 :=
  touch_0 hM 2 dl now 2 300 0 false 0 hd hn (by decide) fun e1 e2 e3 e4 => con [myE hM 8 17 167772161 4000 134744072 53, myE hM 13 17 134744072 53 151587081 1001, tmE hM 55 1 2 300, isF 65 e1, no 71 e2, isF 91 e3, no 95 e4, tmE hM 150 1 2 300, tmE hM 174 1 2 300]
theorem touch_2b (hM : TabOK A) (dl now : Int) (hd : 0 ≤ dl ∧ dl ≤ 100000) (hn : 0 ≤ now ∧ now ≤ 100000) :
    CallJ Tryz.prog A 38 [.agg (flL 2 dl (rw1 0)).toArray, .bool true, .int .u8 0, .int .i64 now] [hB 0] 1 (.tuple #[.agg (flL 2 (now + 300) (rw1 1)).toArray, .int .i64 0]) [hB 0, hB 1] 2 :=
  touch_0 hM 2 dl now 2 300 0 true 0 hd hn (by decide) fun e1 e2 e3 e4 => con [myE hM 8 17 167772161 4000 134744072 53, myE hM 13 17 134744072 53 151587081 1001, tmE hM 55 1 2 300, isF 65 e1, no 71 e2, isF 91 e3, no 95 e4, tmE hM 150 1 2 300, tmE hM 173 1 2 300]
/-- a flow's state behind a packet, and how long it lasts -/
def stN (st : Int) (back : Bool) : Int := if st = 1 ∧ back = false then 1 else 2
def dlN (st : Int) (back : Bool) : Int := if st = 1 ∧ back = false then 120 else 300
theorem touch_J (hM : TabOK A) (st dl now : Int) (back : Bool) (hst : st = 1 ∨ st = 2) (hd : 0 ≤ dl ∧ dl ≤ 100000) (hn : 0 ≤ now ∧ now ≤ 100000) :
    CallJ Tryz.prog A 38 [.agg (flL st dl (rw1 0)).toArray, .bool back, .int .u8 0, .int .i64 now] [hB 0] 1 (.tuple #[.agg (flL (stN st back) (now + dlN st back) (rw1 1)).toArray, .int .i64 0]) [hB 0, hB 1] 2 := by
  rcases hst with rfl | rfl <;> cases back
  · exact touch_1f hM dl now hd hn
  · exact touch_1b hM dl now hd hn
  · exact touch_2f hM dl now hd hn
  · exact touch_2b hM dl now hd hn
end Go.Proofs.YtedfdphapcanoaaGreatDoor
end

section
/- The chapter's box: what is seen of its datagrams, and what they become. -/
set_option linter.unusedVariables false
namespace Go.Proofs.YtedfdphapcanoaaGreatDoor
open Go.RowKit Go.Lib Rx

@[reducible] def bs (l : List UInt8) : ByteArray := ⟨l.toArray⟩
def pka : ByteArray := bs [69, 0, 0, 31, 0, 0, 0, 0, 63, 17, 89, 173, 9, 9, 9, 9, 8, 8, 8, 8, 3, 233, 0, 53, 0, 11, 21, 54, 97, 98, 99]
def pkb : ByteArray := bs [69, 0, 0, 31, 0, 0, 0, 0, 63, 17, 97, 190, 8, 8, 8, 8, 10, 0, 0, 1, 0, 53, 15, 160, 0, 11, 17, 144, 97, 98, 99]
@[reducible] def tpV (a b c d : Int) : List Value := [.int .u8 17, .int .u32 a, .int .u16 b, .int .u32 c, .int .u16 d]
@[reducible] def snV (a b c d l : Int) : Value := .agg (tpV a b c d ++ ([.int .i64 2, .int .u8 0, .bool false, .int .u8 l] : List Value)).toArray
theorem of_A (w : World) : Calls Tryz.prog 20 #[.string pkA] w (Ret (.tuple #[snV 167772161 4000 134744072 53 64, .int .i64 0]) w) := run (args := [.string pkA]) [holdsE 115 2 [bs [69, 0, 0, 31, 0, 0, 0, 0, 64, 17, 96, 190, 10, 0, 0, 1, 8, 8, 8, 8]] true]
theorem of_B (w : World) : Calls Tryz.prog 20 #[.string pkB] w (Ret (.tuple #[snV 134744072 53 151587081 1001 64, .int .i64 0]) w) := run (args := [.string pkB]) [holdsE 115 2 [bs [69, 0, 0, 31, 0, 0, 0, 0, 64, 17, 88, 173, 8, 8, 8, 8, 9, 9, 9, 9]] true]
theorem of_C (w : World) : Calls Tryz.prog 20 #[.string pkC] w (Ret (.tuple #[snV 167772162 4000 134744072 53 64, .int .i64 0]) w) := run (args := [.string pkC]) [holdsE 115 2 [bs [69, 0, 0, 31, 0, 0, 0, 0, 64, 17, 96, 189, 10, 0, 0, 2, 8, 8, 8, 8]] true]
theorem of_a (w : World) : Calls Tryz.prog 20 #[.string pka] w (Ret (.tuple #[snV 151587081 1001 134744072 53 63, .int .i64 0]) w) := run (args := [.string pka]) [holdsE 115 2 [bs [69, 0, 0, 31, 0, 0, 0, 0, 63, 17, 89, 173, 9, 9, 9, 9, 8, 8, 8, 8]] true]
theorem of_b (w : World) : Calls Tryz.prog 20 #[.string pkb] w (Ret (.tuple #[snV 134744072 53 167772161 4000 63, .int .i64 0]) w) := run (args := [.string pkb]) [holdsE 115 2 [bs [69, 0, 0, 31, 0, 0, 0, 0, 63, 17, 97, 190, 8, 8, 8, 8, 10, 0, 0, 1]] true]
@[reducible] def lkV (a b c d l : Int) : Value := .tuple #[.agg ((tpV a b c d ++ ([.int .i64 2, .int .u8 0, .bool false, .int .u8 l] : List Value)) ++ tpV a b c d).toArray, .int .i64 0]
theorem see_A (w : World) : Calls Tryz.prog 35 #[.string pkA] w (Ret (lkV 167772161 4000 134744072 53 64) w) := run (args := [.string pkA]) [does 3 (args := [.string pkA]) fun W _ => of_A W]
theorem see_B (w : World) : Calls Tryz.prog 35 #[.string pkB] w (Ret (lkV 134744072 53 151587081 1001 64) w) := run (args := [.string pkB]) [does 3 (args := [.string pkB]) fun W _ => of_B W]
theorem see_C (w : World) : Calls Tryz.prog 35 #[.string pkC] w (Ret (lkV 167772162 4000 134744072 53 64) w) := run (args := [.string pkC]) [does 3 (args := [.string pkC]) fun W _ => of_C W]
theorem ap_A (w : World) : Calls Tryz.prog 77 #[.string pkA, .agg #[.int .u32 151587081, .int .u16 1001, .int .u32 134744072, .int .u16 53]] w (Ret (.tuple #[.string pka, .int .i64 0]) w) :=
  run (args := [.string pkA, .agg #[.int .u32 151587081, .int .u16 1001, .int .u32 134744072, .int .u16 53]]) [does 4 (args := [.string pkA]) fun W _ => of_A W, holdsE 133 3 [bs [69, 0, 0, 31, 0, 0, 0, 0, 64, 17, 96, 190, 10, 0, 0, 1, 8, 8, 8, 8]] true,
    put32E 693 151587081 (bs [9, 9, 9, 9]), put32E 697 134744072 (bs [8, 8, 8, 8]), updsE 766 24766 (bs [64, 17, 10, 0, 0, 1, 8, 8, 8, 8]) (bs [63, 17, 9, 9, 9, 9, 8, 8, 8, 8]) 22957, put16E 772 22957 (bs [89, 173]), put32E 779 151587081 (bs [9, 9, 9, 9]), put32E 783 134744072 (bs [8, 8, 8, 8]),
    wordE 921 19 [1001, 53] (bs [3, 233, 0, 53]), put32E 1021 151587081 (bs [9, 9, 9, 9]), put32E 1025 134744072 (bs [8, 8, 8, 8]), updsE 1095 4496 (bs [10, 0, 0, 1, 8, 8, 8, 8, 15, 160, 0, 53]) (bs [9, 9, 9, 9, 8, 8, 8, 8, 3, 233, 0, 53]) 5430,
    withE 1114 (bs [15, 160, 0, 53, 0, 11, 17, 144, 97, 98, 99]) 0 (bs [3, 233, 0, 53]) (bs [3, 233, 0, 53, 0, 11, 17, 144, 97, 98, 99]), put16E 1124 5430 (bs [21, 54]), withE 1129 (bs [3, 233, 0, 53, 0, 11, 17, 144, 97, 98, 99]) 6 (bs [21, 54]) (bs [3, 233, 0, 53, 0, 11, 21, 54, 97, 98, 99])]
theorem ap_B (w : World) : Calls Tryz.prog 77 #[.string pkB, .agg #[.int .u32 134744072, .int .u16 53, .int .u32 167772161, .int .u16 4000]] w (Ret (.tuple #[.string pkb, .int .i64 0]) w) :=
  run (args := [.string pkB, .agg #[.int .u32 134744072, .int .u16 53, .int .u32 167772161, .int .u16 4000]]) [does 4 (args := [.string pkB]) fun W _ => of_B W, holdsE 133 3 [bs [69, 0, 0, 31, 0, 0, 0, 0, 64, 17, 88, 173, 8, 8, 8, 8, 9, 9, 9, 9]] true,
    put32E 693 134744072 (bs [8, 8, 8, 8]), put32E 697 167772161 (bs [10, 0, 0, 1]), updsE 766 22701 (bs [64, 17, 8, 8, 8, 8, 9, 9, 9, 9]) (bs [63, 17, 8, 8, 8, 8, 10, 0, 0, 1]) 25022, put16E 772 25022 (bs [97, 190]), put32E 779 134744072 (bs [8, 8, 8, 8]), put32E 783 167772161 (bs [10, 0, 0, 1]),
    wordE 921 19 [53, 4000] (bs [0, 53, 15, 160]), put32E 1021 134744072 (bs [8, 8, 8, 8]), put32E 1025 167772161 (bs [10, 0, 0, 1]), updsE 1095 5430 (bs [8, 8, 8, 8, 9, 9, 9, 9, 0, 53, 3, 233]) (bs [8, 8, 8, 8, 10, 0, 0, 1, 0, 53, 15, 160]) 4496,
    withE 1114 (bs [0, 53, 3, 233, 0, 11, 21, 54, 97, 98, 99]) 0 (bs [0, 53, 15, 160]) (bs [0, 53, 15, 160, 0, 11, 21, 54, 97, 98, 99]), put16E 1124 4496 (bs [17, 144]), withE 1129 (bs [0, 53, 15, 160, 0, 11, 21, 54, 97, 98, 99]) 6 (bs [17, 144]) (bs [0, 53, 15, 160, 0, 11, 17, 144, 97, 98, 99])]
end Go.Proofs.YtedfdphapcanoaaGreatDoor
end
