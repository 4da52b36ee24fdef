/- The chapter's box: boxed. -/
import Derived.Test.YtedfdphapcanoaaGreatDoorAtF
set_option linter.unusedVariables false
namespace Go.Proofs.YtedfdphapcanoaaGreatDoor
open Go.RowKit Go.Lib Rx

theorem tabOK_of {w : World} (hL : Lasts w) (hW : Wds w) : TabOK (Amb.of w) := fun W h => ⟨hL.below h, hW.below h⟩
theorem boxed_w (w : World) (hL : Lasts w) (hW : Wds w) : Calls Tryz.prog 14 #[] w (Ret (.bool true) w) :=
  have hM := tabOK_of hL hW
  run (args := []) [calls 1 0 3 made_J, does 21 (args := [oneV, farV]) fun W _ => dg_A W, calls 25 8 2 ((pk_1 hM).at (d := 2) [0, 1, 2, 7] 8), does 35 (args := [farV, outV]) fun W _ => dg_B W, calls 37 11 1 ((pk_B hM 1 120 0 (.inl rfl) (by decide) (by decide)).at (d := 1) [0, 1, 2, 8, 9] 11),
    does 47 (args := [twoV, farV]) fun W _ => dg_C W, calls 51 14 0 ((pk_2 hM).at (d := 0) [0, 1, 2, 8, 11, 13] 14), does 61 (args := [twoV, farV]) fun W _ => dg_C W, calls 65 16 0 ((pk_3 hM).at (d := 0) [0, 1, 2, 8, 11, 15] 16), does 75 (args := [twoV, farV]) fun W _ => dg_C W, calls 77 17 0 ((pk_4 hM).at (d := 0) [0, 1, 2, 8, 11] 17),
    does 117 (args := [.string pka]) fun W _ => of_a W, does 159 (args := [.string pkb]) fun W _ => of_b W, calls 193 26 0 ((tick_on 2 300 0 299 (by decide) (by decide) (by decide)).at (d := 0) [0, 1, 2, 8, 11] 26), calls 197 26 1 ((dump_1 2 300 299).at (d := 1) [0, 1, 2, 8, 11] 26),
    calls 208 27 0 ((tick_off 2 300 299 1 (by decide) (by decide) (by decide)).at (d := 0) [0, 1, 2, 8, 11] 27), calls 213 27 0 ((dump_0 300).at (d := 0) [0, 1, 2, 8] 27)]
end Go.Proofs.YtedfdphapcanoaaGreatDoor
