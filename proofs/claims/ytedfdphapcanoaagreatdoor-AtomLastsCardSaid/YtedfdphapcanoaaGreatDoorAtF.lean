/- The chapter's box: time goes on; its flows. -/
import Derived.Test.YtedfdphapcanoaaGreatDoorAtE
set_option linter.unusedVariables false
namespace Go.Proofs.YtedfdphapcanoaaGreatDoor
open Go.RowKit Go.Lib Rx
variable {A : Amb}

/-- no flow is left -/
@[reducible] def goM (now : Int) : List (Nat × Blk) := [aB (.slice (some ⟨3, 0, some 0⟩) 0 0) now, tB, rB, (3, ([.int .u8 0, .int .u32 0, .int .u16 0, .int .u32 0, .int .u16 0, .int .u8 0, .int .u32 0, .int .u16 0, .int .u32 0, .int .u16 0, .int .i64 0, .int .i64 0, nilS], 77, true))]
theorem wrap_add {a b : Int} (ha : 0 ≤ a ∧ a ≤ 100000) (hb : 0 ≤ b ∧ b ≤ 100000) : IntKind.wrap .i64 (a + b) = a + b := by unfold IntKind.wrap; simp [IntKind.bits, IntKind.signed]; omega
theorem wrap_sub {a : Int} (ha : 0 ≤ a ∧ a ≤ 100000) : IntKind.wrap .i64 (1099511627776 - a) = 1099511627776 - a := by unfold IntKind.wrap; simp [IntKind.bits, IntKind.signed]; omega
theorem tick_on (st dl now n : Int) (hn : 0 ≤ now ∧ now ≤ 100000) (hb : 0 ≤ n ∧ n ≤ 100000) (h : now + n < dl) :
    CallJ Tryz.prog A 11 [pt 0, .int .i64 n] (stM st dl now) 5 (.int .i64 0) (stM st dl (now + n)) 5 := by
  have e1 : decide (n < 0) = false := by simp; omega
  have e2 : decide (n > IntKind.wrap .i64 (1099511627776 - now)) = false := by rw [wrap_sub hn]; simp; omega
  have e3 : (!decide (IntKind.wrap .i64 (now + n) < dl)) = false := by rw [wrap_add hn hb]; simp; omega
  have := ((con (A := A) (P := Tryz.prog) (f := 11) (args := [pt 0, .int .i64 n]) (sn := stM st dl now) (nx := 5) (v := .int .i64 0) (out := stM st dl (IntKind.wrap .i64 (now + n))) (nx' := 8) [isF 17 e1, no 26 e2, no 78 e3]).drop)
  rw [wrap_add hn hb] at this
  exact this
theorem tick_off (st dl now n : Int) (hn : 0 ≤ now ∧ now ≤ 100000) (hb : 0 ≤ n ∧ n ≤ 100000) (h : dl ≤ now + n) :
    CallJ Tryz.prog A 11 [pt 0, .int .i64 n] (stM st dl now) 5 (.int .i64 0) (goM (now + n)) 5 := by
  have e1 : decide (n < 0) = false := by simp; omega
  have e2 : decide (n > IntKind.wrap .i64 (1099511627776 - now)) = false := by rw [wrap_sub hn]; simp; omega
  have e3 : (!decide (IntKind.wrap .i64 (now + n) < dl)) = true := by rw [wrap_add hn hb]; simp; omega
  have := ((con (A := A) (P := Tryz.prog) (f := 11) (args := [pt 0, .int .i64 n]) (sn := stM st dl now) (nx := 5) (v := .int .i64 0) (out := goM (IntKind.wrap .i64 (now + n))) (nx' := 8) [isF 17 e1, no 26 e2, yes 78 e3]).drop)
  rw [wrap_add hn hb] at this
  exact this
theorem dump_1 (st dl now : Int) : CallJ Tryz.prog A 13 [pt 0] (stM st dl now) 5 (rw1 5) (stM st dl now) 6 :=
  ((con (A := A) (P := Tryz.prog) (f := 13) (args := [pt 0]) (sn := stM st dl now) (nx := 5) (v := rw1 11) (out := stM st dl now) (nx' := 12) []).re (d := 7) [11]).eq rfl rfl
theorem dump_0 (now : Int) : CallJ Tryz.prog A 13 [pt 0] (goM now) 4 nilS (goM now) 4 := con []
end Go.Proofs.YtedfdphapcanoaaGreatDoor
