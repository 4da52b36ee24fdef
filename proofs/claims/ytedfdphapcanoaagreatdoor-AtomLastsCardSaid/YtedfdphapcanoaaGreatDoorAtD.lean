/- The chapter's box: what is seen of its datagrams, and what they become. -/
import Derived.Test.YtedfdphapcanoaaGreatDoorAtB
import Derived.Test.YtedfdphapcanoaaGreatDoorRxSums
set_option linter.unusedVariables false
namespace Go.Proofs.YtedfdphapcanoaaGreatDoor
open Go.RowKit Go.Lib Rx

@[reducible] def bs (l : List UInt8) : ByteArray := ⟨l.toArray⟩
def pka : ByteArray := bs [69, 0, 0, 31, 0, 0, 0, 0, 63, 17, 89, 173, 9, 9, 9, 9, 8, 8, 8, 8, 3, 233, 0, 53, 0, 11, 21, 54, 97, 98, 99]
def pkb : ByteArray := bs [69, 0, 0, 31, 0, 0, 0, 0, 63, 17, 97, 190, 8, 8, 8, 8, 10, 0, 0, 1, 0, 53, 15, 160, 0, 11, 17, 144, 97, 98, 99]
@[reducible] def tpV (a b c d : Int) : List Value := [.int .u8 17, .int .u32 a, .int .u16 b, .int .u32 c, .int .u16 d]
@[reducible] def snV (a b c d l : Int) : Value := .agg (tpV a b c d ++ ([.int .i64 2, .int .u8 0, .bool false, .int .u8 l] : List Value)).toArray
theorem of_A (w : World) : Calls Tryz.prog 20 #[.string pkA] w (Ret (.tuple #[snV 167772161 4000 134744072 53 64, .int .i64 0]) w) := run (args := [.string pkA]) [holdsE 115 2 [bs [69, 0, 0, 31, 0, 0, 0, 0, 64, 17, 96, 190, 10, 0, 0, 1, 8, 8, 8, 8]] true]
theorem of_B (w : World) : Calls Tryz.prog 20 #[.string pkB] w (Ret (.tuple #[snV 134744072 53 151587081 1001 64, .int .i64 0]) w) := run (args := [.string pkB]) [holdsE 115 2 [bs [69, 0, 0, 31, 0, 0, 0, 0, 64, 17, 88, 173, 8, 8, 8, 8, 9, 9, 9, 9]] true]
theorem of_C (w : World) : Calls Tryz.prog 20 #[.string pkC] w (Ret (.tuple #[snV 167772162 4000 134744072 53 64, .int .i64 0]) w) := run (args := [.string pkC]) [holdsE 115 2 [bs [69, 0, 0, 31, 0, 0, 0, 0, 64, 17, 96, 189, 10, 0, 0, 2, 8, 8, 8, 8]] true]
theorem of_a (w : World) : Calls Tryz.prog 20 #[.string pka] w (Ret (.tuple #[snV 151587081 1001 134744072 53 63, .int .i64 0]) w) := run (args := [.string pka]) [holdsE 115 2 [bs [69, 0, 0, 31, 0, 0, 0, 0, 63, 17, 89, 173, 9, 9, 9, 9, 8, 8, 8, 8]] true]
theorem of_b (w : World) : Calls Tryz.prog 20 #[.string pkb] w (Ret (.tuple #[snV 134744072 53 167772161 4000 63, .int .i64 0]) w) := run (args := [.string pkb]) [holdsE 115 2 [bs [69, 0, 0, 31, 0, 0, 0, 0, 63, 17, 97, 190, 8, 8, 8, 8, 10, 0, 0, 1]] true]
@[reducible] def lkV (a b c d l : Int) : Value := .tuple #[.agg ((tpV a b c d ++ ([.int .i64 2, .int .u8 0, .bool false, .int .u8 l] : List Value)) ++ tpV a b c d).toArray, .int .i64 0]
theorem see_A (w : World) : Calls Tryz.prog 35 #[.string pkA] w (Ret (lkV 167772161 4000 134744072 53 64) w) := run (args := [.string pkA]) [does 3 (args := [.string pkA]) fun W _ => of_A W]
theorem see_B (w : World) : Calls Tryz.prog 35 #[.string pkB] w (Ret (lkV 134744072 53 151587081 1001 64) w) := run (args := [.string pkB]) [does 3 (args := [.string pkB]) fun W _ => of_B W]
theorem see_C (w : World) : Calls Tryz.prog 35 #[.string pkC] w (Ret (lkV 167772162 4000 134744072 53 64) w) := run (args := [.string pkC]) [does 3 (args := [.string pkC]) fun W _ => of_C W]
theorem ap_A (w : World) : Calls Tryz.prog 77 #[.string pkA, .agg #[.int .u32 151587081, .int .u16 1001, .int .u32 134744072, .int .u16 53]] w (Ret (.tuple #[.string pka, .int .i64 0]) w) :=
  run (args := [.string pkA, .agg #[.int .u32 151587081, .int .u16 1001, .int .u32 134744072, .int .u16 53]]) [does 4 (args := [.string pkA]) fun W _ => of_A W, holdsE 133 3 [bs [69, 0, 0, 31, 0, 0, 0, 0, 64, 17, 96, 190, 10, 0, 0, 1, 8, 8, 8, 8]] true,
    put32E 693 151587081 (bs [9, 9, 9, 9]), put32E 697 134744072 (bs [8, 8, 8, 8]), updsE 766 24766 (bs [64, 17, 10, 0, 0, 1, 8, 8, 8, 8]) (bs [63, 17, 9, 9, 9, 9, 8, 8, 8, 8]) 22957, put16E 772 22957 (bs [89, 173]), put32E 779 151587081 (bs [9, 9, 9, 9]), put32E 783 134744072 (bs [8, 8, 8, 8]),
    wordE 921 19 [1001, 53] (bs [3, 233, 0, 53]), put32E 1021 151587081 (bs [9, 9, 9, 9]), put32E 1025 134744072 (bs [8, 8, 8, 8]), updsE 1095 4496 (bs [10, 0, 0, 1, 8, 8, 8, 8, 15, 160, 0, 53]) (bs [9, 9, 9, 9, 8, 8, 8, 8, 3, 233, 0, 53]) 5430,
    withE 1114 (bs [15, 160, 0, 53, 0, 11, 17, 144, 97, 98, 99]) 0 (bs [3, 233, 0, 53]) (bs [3, 233, 0, 53, 0, 11, 17, 144, 97, 98, 99]), put16E 1124 5430 (bs [21, 54]), withE 1129 (bs [3, 233, 0, 53, 0, 11, 17, 144, 97, 98, 99]) 6 (bs [21, 54]) (bs [3, 233, 0, 53, 0, 11, 21, 54, 97, 98, 99])]
theorem ap_B (w : World) : Calls Tryz.prog 77 #[.string pkB, .agg #[.int .u32 134744072, .int .u16 53, .int .u32 167772161, .int .u16 4000]] w (Ret (.tuple #[.string pkb, .int .i64 0]) w) :=
  run (args := [.string pkB, .agg #[.int .u32 134744072, .int .u16 53, .int .u32 167772161, .int .u16 4000]]) [does 4 (args := [.string pkB]) fun W _ => of_B W, holdsE 133 3 [bs [69, 0, 0, 31, 0, 0, 0, 0, 64, 17, 88, 173, 8, 8, 8, 8, 9, 9, 9, 9]] true,
    put32E 693 134744072 (bs [8, 8, 8, 8]), put32E 697 167772161 (bs [10, 0, 0, 1]), updsE 766 22701 (bs [64, 17, 8, 8, 8, 8, 9, 9, 9, 9]) (bs [63, 17, 8, 8, 8, 8, 10, 0, 0, 1]) 25022, put16E 772 25022 (bs [97, 190]), put32E 779 134744072 (bs [8, 8, 8, 8]), put32E 783 167772161 (bs [10, 0, 0, 1]),
    wordE 921 19 [53, 4000] (bs [0, 53, 15, 160]), put32E 1021 134744072 (bs [8, 8, 8, 8]), put32E 1025 167772161 (bs [10, 0, 0, 1]), updsE 1095 5430 (bs [8, 8, 8, 8, 9, 9, 9, 9, 0, 53, 3, 233]) (bs [8, 8, 8, 8, 10, 0, 0, 1, 0, 53, 15, 160]) 4496,
    withE 1114 (bs [0, 53, 3, 233, 0, 11, 21, 54, 97, 98, 99]) 0 (bs [0, 53, 15, 160]) (bs [0, 53, 15, 160, 0, 11, 21, 54, 97, 98, 99]), put16E 1124 4496 (bs [17, 144]), withE 1129 (bs [0, 53, 15, 160, 0, 11, 21, 54, 97, 98, 99]) 6 (bs [17, 144]) (bs [0, 53, 15, 160, 0, 11, 17, 144, 97, 98, 99])]
end Go.Proofs.YtedfdphapcanoaaGreatDoor
