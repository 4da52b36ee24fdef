/- The chapter's box: its datagrams. -/
import Derived.Test.YtedfdphapcanoaaGreatDoorRxG
import Derived.KernelRfl
import Derived.Test.YtedfdphapcanoaaGreatDoorProg
set_option linter.unusedVariables false
namespace Go.Proofs.YtedfdphapcanoaaGreatDoor
open Go.RowKit Go.Lib

def pkA : ByteArray := { data := #[69, 0, 0, 31, 0, 0, 0, 0, 64, 17, 96, 190, 10, 0, 0, 1, 8, 8, 8, 8, 15, 160, 0, 53, 0, 11, 17, 144, 97, 98, 99] }
def pkB : ByteArray := { data := #[69, 0, 0, 31, 0, 0, 0, 0, 64, 17, 88, 173, 8, 8, 8, 8, 9, 9, 9, 9, 0, 53, 3, 233, 0, 11, 21, 54, 97, 98, 99] }
def pkC : ByteArray := { data := #[69, 0, 0, 31, 0, 0, 0, 0, 64, 17, 96, 189, 10, 0, 0, 2, 8, 8, 8, 8, 15, 160, 0, 53, 0, 11, 17, 143, 97, 98, 99] }
def oneV : Value := .agg #[.int .u32 167772161, .int .u16 4000]
def twoV : Value := .agg #[.int .u32 167772162, .int .u16 4000]
def farV : Value := .agg #[.int .u32 134744072, .int .u16 53]
def outV : Value := .agg #[.int .u32 151587081, .int .u16 1001]
theorem dg_A (w : World) : Calls Tryz.prog 10 #[oneV, farV] w (Ret (.string pkA) w) := Rx.run (args := [oneV, farV]) []
theorem dg_B (w : World) : Calls Tryz.prog 10 #[farV, outV] w (Ret (.string pkB) w) := Rx.run (args := [farV, outV]) []
theorem dg_C (w : World) : Calls Tryz.prog 10 #[twoV, farV] w (Ret (.string pkC) w) := Rx.run (args := [twoV, farV]) []
end Go.Proofs.YtedfdphapcanoaaGreatDoor
