/- Several texts of this claim, one behind the other. -/
import Derived.Test.YtedfdphapcanoaaGreatDoorM18

section
/- The chapter's box: its packets. -/
set_option linter.unusedVariables false
namespace Go.Proofs.YtedfdphapcanoaaGreatDoor
open Go.RowKit Go.Lib Rx
variable {A : Amb}

def seeE_A (n : Nat) : Ev Tryz.prog A := does n (args := [.string pkA]) fun W _ => see_A W
def seeE_B (n : Nat) : Ev Tryz.prog A := does n (args := [.string pkB]) fun W _ => see_B W
def seeE_C (n : Nat) : Ev Tryz.prog A := does n (args := [.string pkC]) fun W _ => see_C W
def apE_A (n : Nat) : Ev Tryz.prog A := does n (args := [.string pkA, .agg #[.int .u32 151587081, .int .u16 1001, .int .u32 134744072, .int .u16 53]]) fun W _ => ap_A W
def apE_B (n : Nat) : Ev Tryz.prog A := does n (args := [.string pkB, .agg #[.int .u32 134744072, .int .u16 53, .int .u32 167772161, .int .u16 4000]]) fun W _ => ap_B W
@[reducible] def toldV (r : Int) (s : ByteArray) (e : Int) : Value := .tuple #[.agg #[.int .i64 r, .string s], .int .i64 e]
@[reducible] def noC : Value := .agg #[nilS, .int .i64 0]
@[reducible] def onC (n : Nat) : Value := .agg #[.slice (some ⟨n, 0, some 1⟩) 1 1, .int .i64 0]
@[reducible] def oB (n : Nat) (p : Int) : Nat × Blk := (n, ([.int .u32 151587081, .int .u16 p], 30, true))
@[reducible] def stM (st dl now : Int) : List (Nat × Blk) := [aB (rw1 3) now, tB, rB, fB st dl 4, hB 4]
@[reducible] def stM5 (st dl now : Int) : List (Nat × Blk) := [aB (rw1 3) now, tB, rB, fB st dl 5, hB 5]
theorem touch21 (hM : TabOK A) (st dl now : Int) (back : Bool) (hst : st = 1 ∨ st = 2) (hd : 0 ≤ dl ∧ dl ≤ 100000) (hn : 0 ≤ now ∧ now ≤ 100000) :
    CallJ Tryz.prog A 38 [.agg (flL st dl (rw1 4)).toArray, .bool back, .int .u8 0, .int .i64 now] [hB 4] 21 (.tuple #[.agg (flL (stN st back) (now + dlN st back) (rw1 21)).toArray, .int .i64 0]) [hB 4, hB 21] (21 + 1) :=
  ((touch_J hM st dl now back hst hd hn).at (d := 1) [4] 21).eq rfl rfl
theorem pk_A (hM : TabOK A) (st dl now : Int) (hst : st = 1 ∨ st = 2) (hd : 0 ≤ dl ∧ dl ≤ 100000) (hn : 0 ≤ now ∧ now ≤ 100000) :
    CallJ Tryz.prog A 9 [pt 0, .string pkA, noC] (stM st dl now) 5 (toldV 0 pka 0) (stM5 (stN st false) (now + dlN st false) now) 6 :=
  ((con (A := A) (P := Tryz.prog) (f := 9) (args := [pt 0, .string pkA, noC]) (sn := stM st dl now) (nx := 5) (v := toldV 0 pka 0) (out := [aB (rw1 3) now, tB, rB, fB (stN st false) (now + dlN st false) 21, hB 21]) (nx' := 23) [seeE_A 18, seeE_A 76, apE_A 142, calls 167 21 1 (touch21 hM st dl now false hst hd hn)]).re (d := 18) [21]).eq rfl rfl
theorem pk_B (hM : TabOK A) (st dl now : Int) (hst : st = 1 ∨ st = 2) (hd : 0 ≤ dl ∧ dl ≤ 100000) (hn : 0 ≤ now ∧ now ≤ 100000) :
    CallJ Tryz.prog A 9 [pt 0, .string pkB, noC] (stM st dl now) 5 (toldV 0 pkb 0) (stM5 (stN st true) (now + dlN st true) now) 6 :=
  ((con (A := A) (P := Tryz.prog) (f := 9) (args := [pt 0, .string pkB, noC]) (sn := stM st dl now) (nx := 5) (v := toldV 0 pkb 0) (out := [aB (rw1 3) now, tB, rB, fB (stN st true) (now + dlN st true) 21, hB 21]) (nx' := 23) [seeE_B 18, seeE_B 81, apE_B 152, calls 177 21 1 (touch21 hM st dl now true hst hd hn)]).re (d := 18) [21]).eq rfl rfl
/-- the first one -/
theorem pk_1 (hM : TabOK A) :
    CallJ Tryz.prog A 9 [pt 0, .string pkA, onC 3] [aB nilS 0, tB, rB, oB 3 1001] 4 (toldV 0 pka 0) [aB (rw1 4) 0, tB, rB, (4, (fB 1 120 5).2), hB 5] 6 :=
  ((con (A := A) (P := Tryz.prog) (f := 9) (args := [pt 0, .string pkA, onC 3]) (sn := [aB nilS 0, tB, rB, oB 3 1001]) (nx := 4) (v := toldV 0 pka 0) (out := [aB (rw1 68) 0, tB, rB, (68, (fB 1 120 62).2), hB 62]) (nx' := 79)
    [seeE_A 18, tmE hM 839 1 1 120, tmE hM 1030 1 1 120, myE hM 1039 17 167772161 4000 134744072 53, myE hM 1044 17 134744072 53 151587081 1001, tmE hM 1086 1 1 120, seeE_A 1194, apE_A 1260]).re (d := 75) [68, 62]).eq rfl rfl
/-- another host's: what it would have another flow has -/
theorem pk_2 (hM : TabOK A) :
    CallJ Tryz.prog A 9 [pt 0, .string pkC, onC 5] (stM 2 300 0 ++ [oB 5 1001]) 6 (toldV 0 (bs []) 2) (stM 2 300 0) 6 :=
  ((con (A := A) (P := Tryz.prog) (f := 9) (args := [pt 0, .string pkC, onC 5]) (sn := stM 2 300 0 ++ [oB 5 1001]) (nx := 6) (v := toldV 0 (bs []) 2) (out := stM 2 300 0) (nx' := 74)
    [seeE_C 18, tmE hM 878 1 1 120, tmE hM 1069 1 1 120, myE hM 1078 17 167772162 4000 134744072 53, myE hM 1083 17 134744072 53 151587081 1001, tmE hM 1125 1 1 120]).re (d := 68) []).eq rfl rfl
theorem pk_3 (hM : TabOK A) :
    CallJ Tryz.prog A 9 [pt 0, .string pkC, onC 5] (stM 2 300 0 ++ [oB 5 999]) 6 (toldV 0 (bs []) 2) (stM 2 300 0) 6 :=
  ((con (A := A) (P := Tryz.prog) (f := 9) (args := [pt 0, .string pkC, onC 5]) (sn := stM 2 300 0 ++ [oB 5 999]) (nx := 6) (v := toldV 0 (bs []) 2) (out := stM 2 300 0) (nx' := 67)
    [seeE_C 18, tmE hM 878 1 1 120]).re (d := 61) []).eq rfl rfl
theorem pk_4 (hM : TabOK A) :
    CallJ Tryz.prog A 9 [pt 0, .string pkC, .agg #[nilS, .int .i64 12]] (stM 2 300 0) 5 (toldV 12 (bs []) 0) (stM 2 300 0) 5 :=
  ((con (A := A) (P := Tryz.prog) (f := 9) (args := [pt 0, .string pkC, .agg #[nilS, .int .i64 12]]) (sn := stM 2 300 0) (nx := 5) (v := toldV 12 (bs []) 0) (out := stM 2 300 0) (nx' := 59)
    [seeE_C 18, tmE hM 878 1 1 120]).re (d := 54) []).eq rfl rfl
end Go.Proofs.YtedfdphapcanoaaGreatDoor
end

section
/- The chapter's box: time goes on; its flows. -/
set_option linter.unusedVariables false
namespace Go.Proofs.YtedfdphapcanoaaGreatDoor
open Go.RowKit Go.Lib Rx
variable {A : Amb}

/-- no flow is left -/
@[reducible] def goM (now : Int) : List (Nat × Blk) := [aB (.slice (some ⟨3, 0, some 0⟩) 0 0) now, tB, rB, (3, ([.int .u8 0, .int .u32 0, .int .u16 0, .int .u32 0, .int .u16 0, .int .u8 0, .int .u32 0, .int .u16 0, .int .u32 0, .int .u16 0, .int .i64 0, .int .i64 0, nilS], 77, true))]
theorem wrap_add {a b : Int} (ha : 0 ≤ a ∧ a ≤ 100000) (hb : 0 ≤ b ∧ b ≤ 100000) : IntKind.wrap .i64 (a + b) = a + b := by unfold IntKind.wrap; simp [IntKind.bits, IntKind.signed]; omega
theorem wrap_sub {a : Int} (ha : 0 ≤ a ∧ a ≤ 100000) : IntKind.wrap .i64 (1099511627776 - a) = 1099511627776 - a := by unfold IntKind.wrap; simp [IntKind.bits, IntKind.signed]; omega
theorem tick_on (st dl now n : Int) (hn : 0 ≤ now ∧ now ≤ 100000) (hb : 0 ≤ n ∧ n ≤ 100000) (h : now + n < dl) :
    CallJ Tryz.prog A 11 [pt 0, .int .i64 n] (stM st dl now) 5 (.int .i64 0) (stM st dl (now + n)) 5 := by
  have e1 : decide (n < 0) = false := by simp; omega
  have e2 : decide (n > IntKind.wrap .i64 (1099511627776 - now)) = false := by rw [wrap_sub hn]; simp; omega
  have e3 : (!decide (IntKind.wrap .i64 (now + n) < dl)) = false := by rw [wrap_add hn hb]; simp; omega
  have := ((con (A := A) (P := Tryz.prog) (f := 11) (args := [pt 0, .int .i64 n]) (sn := stM st dl now) (nx := 5) (v := .int .i64 0) (out := stM st dl (IntKind.wrap .i64 (now + n))) (nx' := 8) [isF 17 e1, no 26 e2, no 78 e3]).drop)
  rw [wrap_add hn hb] at this
  exact this
theorem tick_off (st dl now n : Int) (hn : 0 ≤ now ∧ now ≤ 100000) (hb : 0 ≤ n ∧ n ≤ 100000) (h : dl ≤ now + n) :
    CallJ Tryz.prog A 11 [pt 0, .int .i64 n] (stM st dl now) 5 (.int .i64 0) (goM (now + n)) 5 := by
  have e1 : decide (n < 0) = false := by simp; omega
  have e2 : decide (n > IntKind.wrap .i64 (1099511627776 - now)) = false := by rw [wrap_sub hn]; simp; omega
  have e3 : (!decide (IntKind.wrap .i64 (now + n) < dl)) = true := by rw [wrap_add hn hb]; simp; omega
  have := ((con (A := A) (P := Tryz.prog) (f := 11) (args := [pt 0, .int .i64 n]) (sn := stM st dl now) (nx := 5) (v := .int .i64 0) (out := goM (IntKind.wrap .i64 (now + n))) (nx' := 8) [isF 17 e1, no 26 e2, yes 78 e3]).drop)
  rw [wrap_add hn hb] at this
  exact this
theorem dump_1 (st dl now : Int) : CallJ Tryz.prog A 13 [pt 0] (stM st dl now) 5 (rw1 5) (stM st dl now) 6 :=
  ((con (A := A) (P := Tryz.prog) (f := 13) (args := [pt 0]) (sn := stM st dl now) (nx := 5) (v := rw1 11) (out := stM st dl now) (nx' := 12) []).re (d := 7) [11]).eq rfl rfl
theorem dump_0 (now : Int) : CallJ Tryz.prog A 13 [pt 0] (goM now) 4 nilS (goM now) 4 := con []
end Go.Proofs.YtedfdphapcanoaaGreatDoor
end
