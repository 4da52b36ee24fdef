/- Several texts of this claim, one behind the other. -/
import Derived.Test.YtilfcikhipadpaaGreatDoorK9a
import Derived.KernelRfl

section
/- rules: clash, Check: printed (gen/ways.py, gen/rules.spec.py). -/
set_option linter.unusedVariables false
namespace Go.Proofs.YtilfcikhipadpaaGreatDoor
open Go.RowKit Go.Lib Rx
abbrev EvL (A : Amb) := List (Ev Tryz.prog A)
/-- a run that leaves its blocks as they were -/
theorem cB {P : Program} {A : Amb} {f : FuncId} {args : List Value} {sn : List (Nat × Blk)} {nx : Nat} {v : Value} (hB : inBlks nx sn = true) (nx' : Nat) (evs : List (Ev P A)) (h : resM P f args sn nx (asOf evs) (sn.map (·.1)) = some (v, sn, nx', [], (keysOf evs).reverse) := by kernel_rfl) (hm : P.follows .mixedOrders = true := by kernel_rfl) (h1 : args.all (inV nx) = true := by kernel_rfl) (h3 : inV nx v = true := by kernel_rfl) : CallJ P A f args sn nx v sn nx :=
  (con (nx' := nx') evs h hm).drop (h1 := h1) (h2 := hB) (h3 := h3) (h4 := hB)
def mE {A : Amb} (n : Nat) (a b : Int) (h : 0 ≤ a ∧ a ≤ 4294967295) : Ev Tryz.prog A := does n (args := [.agg #[.int .u32 a, .int .i64 b]]) fun W _ => addrs_May a b W h
def hE {A : Amb} (n : Nat) (a b x : Int) (h : 0 ≤ a ∧ a ≤ 4294967295) (hx : 0 ≤ x ∧ x ≤ 4294967295) : Ev Tryz.prog A := does n (args := [.agg #[.int .u32 a, .int .i64 b], .int .u32 x]) fun W _ => addrs_Has a b x W h hx
def rx_clash_v (k p sa sb da db e f t ia ip k2 p2 sa2 sb2 da2 db2 e2 f2 t2 ia2 ip2 : Int) : Value := (bif (k != 3) then (bif (k2 != 3) then (.bool false) else (bif (p != p2) then (bif (p != 0) then (.bool false) else (bif (k == 3) then (.bool false) else (bif (e2 == e) then (bif (decide (f ≤ f2)) then (.bool (decide (f2 ≤ t))) else (.bool false)) else (.bool false)))) else (bif (k == 3) then (bif (ia2 == ia && (ip2 == ip && true)) then (.bool true) else (bif (e2 == e) then (bif (decide (f ≤ f2)) then (.bool (decide (f2 ≤ t))) else (.bool false)) else (.bool false))) else (bif (e2 == e) then (bif (decide (f ≤ f2)) then (.bool (decide (f2 ≤ t))) else (.bool false)) else (.bool false))))) else (bif (p2 != p) then (bif (p2 != 0) then (.bool false) else (bif (k2 == 3) then (.bool false) else (bif (e == e2) then (bif (decide (f2 ≤ f)) then (.bool (decide (f ≤ t2))) else (.bool false)) else (.bool false)))) else (bif (k2 == 3) then (bif (ia == ia2 && (ip == ip2 && true)) then (.bool true) else (bif (e == e2) then (bif (decide (f2 ≤ f)) then (.bool (decide (f ≤ t2))) else (.bool false)) else (.bool false))) else (bif (e == e2) then (bif (decide (f2 ≤ f)) then (.bool (decide (f ≤ t2))) else (.bool false)) else (.bool false)))))
theorem rx_clash (k p sa sb da db e f t ia ip k2 p2 sa2 sb2 da2 db2 e2 f2 t2 ia2 ip2 : Int) (w : World)  : Calls Tryz.prog 95 #[.agg #[.int .i64 k, .int .u8 p, .int .u32 sa, .int .i64 sb, .int .u32 da, .int .i64 db, .int .u32 e, .int .u16 f, .int .u16 t, .int .u32 ia, .int .u16 ip], .agg #[.int .i64 k2, .int .u8 p2, .int .u32 sa2, .int .i64 sb2, .int .u32 da2, .int .i64 db2, .int .u32 e2, .int .u16 f2, .int .u16 t2, .int .u32 ia2, .int .u16 ip2]] w (Ret (rx_clash_v k p sa sb da db e f t ia ip k2 p2 sa2 sb2 da2 db2 e2 f2 t2 ia2 ip2) w) := by
  unfold rx_clash_v
  cases h1 : (k != 3)
  · cases h2 : (p2 != p)
    · cases h3 : (k2 == 3)
      · cases h4 : (e == e2)
        · exact run (args := [.agg #[.int .i64 k, .int .u8 p, .int .u32 sa, .int .i64 sb, .int .u32 da, .int .i64 db, .int .u32 e, .int .u16 f, .int .u16 t, .int .u32 ia, .int .u16 ip], .agg #[.int .i64 k2, .int .u8 p2, .int .u32 sa2, .int .i64 sb2, .int .u32 da2, .int .i64 db2, .int .u32 e2, .int .u16 f2, .int .u16 t2, .int .u32 ia2, .int .u16 ip2]]) [no 6 h1, isF 10 h1, isF 16 h2, isF 31 h3, isF 44 h4]
        · cases h5 : (decide (f2 ≤ f))
          · exact run (args := [.agg #[.int .i64 k, .int .u8 p, .int .u32 sa, .int .i64 sb, .int .u32 da, .int .i64 db, .int .u32 e, .int .u16 f, .int .u16 t, .int .u32 ia, .int .u16 ip], .agg #[.int .i64 k2, .int .u8 p2, .int .u32 sa2, .int .i64 sb2, .int .u32 da2, .int .i64 db2, .int .u32 e2, .int .u16 f2, .int .u16 t2, .int .u32 ia2, .int .u16 ip2]]) [no 6 h1, isF 10 h1, isF 16 h2, isF 31 h3, isT 44 h4, isF 51 h5]
          · exact run (args := [.agg #[.int .i64 k, .int .u8 p, .int .u32 sa, .int .i64 sb, .int .u32 da, .int .i64 db, .int .u32 e, .int .u16 f, .int .u16 t, .int .u32 ia, .int .u16 ip], .agg #[.int .i64 k2, .int .u8 p2, .int .u32 sa2, .int .i64 sb2, .int .u32 da2, .int .i64 db2, .int .u32 e2, .int .u16 f2, .int .u16 t2, .int .u32 ia2, .int .u16 ip2]]) [no 6 h1, isF 10 h1, isF 16 h2, isF 31 h3, isT 44 h4, isT 51 h5]
      · cases h6 : (ia == ia2 && (ip == ip2 && true))
        · cases h7 : (e == e2)
          · exact run (args := [.agg #[.int .i64 k, .int .u8 p, .int .u32 sa, .int .i64 sb, .int .u32 da, .int .i64 db, .int .u32 e, .int .u16 f, .int .u16 t, .int .u32 ia, .int .u16 ip], .agg #[.int .i64 k2, .int .u8 p2, .int .u32 sa2, .int .i64 sb2, .int .u32 da2, .int .i64 db2, .int .u32 e2, .int .u16 f2, .int .u16 t2, .int .u32 ia2, .int .u16 ip2]]) [no 6 h1, isF 10 h1, isF 16 h2, isT 31 h3, no 38 h6, isF 44 h7]
          · cases h8 : (decide (f2 ≤ f))
            · exact run (args := [.agg #[.int .i64 k, .int .u8 p, .int .u32 sa, .int .i64 sb, .int .u32 da, .int .i64 db, .int .u32 e, .int .u16 f, .int .u16 t, .int .u32 ia, .int .u16 ip], .agg #[.int .i64 k2, .int .u8 p2, .int .u32 sa2, .int .i64 sb2, .int .u32 da2, .int .i64 db2, .int .u32 e2, .int .u16 f2, .int .u16 t2, .int .u32 ia2, .int .u16 ip2]]) [no 6 h1, isF 10 h1, isF 16 h2, isT 31 h3, no 38 h6, isT 44 h7, isF 51 h8]
            · exact run (args := [.agg #[.int .i64 k, .int .u8 p, .int .u32 sa, .int .i64 sb, .int .u32 da, .int .i64 db, .int .u32 e, .int .u16 f, .int .u16 t, .int .u32 ia, .int .u16 ip], .agg #[.int .i64 k2, .int .u8 p2, .int .u32 sa2, .int .i64 sb2, .int .u32 da2, .int .i64 db2, .int .u32 e2, .int .u16 f2, .int .u16 t2, .int .u32 ia2, .int .u16 ip2]]) [no 6 h1, isF 10 h1, isF 16 h2, isT 31 h3, no 38 h6, isT 44 h7, isT 51 h8]
        · exact run (args := [.agg #[.int .i64 k, .int .u8 p, .int .u32 sa, .int .i64 sb, .int .u32 da, .int .i64 db, .int .u32 e, .int .u16 f, .int .u16 t, .int .u32 ia, .int .u16 ip], .agg #[.int .i64 k2, .int .u8 p2, .int .u32 sa2, .int .i64 sb2, .int .u32 da2, .int .i64 db2, .int .u32 e2, .int .u16 f2, .int .u16 t2, .int .u32 ia2, .int .u16 ip2]]) [no 6 h1, isF 10 h1, isF 16 h2, isT 31 h3, yes 38 h6]
    · cases h9 : (p2 != 0)
      · cases h10 : (k2 == 3)
        · cases h11 : (e == e2)
          · exact run (args := [.agg #[.int .i64 k, .int .u8 p, .int .u32 sa, .int .i64 sb, .int .u32 da, .int .i64 db, .int .u32 e, .int .u16 f, .int .u16 t, .int .u32 ia, .int .u16 ip], .agg #[.int .i64 k2, .int .u8 p2, .int .u32 sa2, .int .i64 sb2, .int .u32 da2, .int .i64 db2, .int .u32 e2, .int .u16 f2, .int .u16 t2, .int .u32 ia2, .int .u16 ip2]]) [no 6 h1, isF 10 h1, isT 16 h2, isF 20 h9, no 27 h10, isF 31 h10, isF 44 h11]
          · cases h12 : (decide (f2 ≤ f))
            · exact run (args := [.agg #[.int .i64 k, .int .u8 p, .int .u32 sa, .int .i64 sb, .int .u32 da, .int .i64 db, .int .u32 e, .int .u16 f, .int .u16 t, .int .u32 ia, .int .u16 ip], .agg #[.int .i64 k2, .int .u8 p2, .int .u32 sa2, .int .i64 sb2, .int .u32 da2, .int .i64 db2, .int .u32 e2, .int .u16 f2, .int .u16 t2, .int .u32 ia2, .int .u16 ip2]]) [no 6 h1, isF 10 h1, isT 16 h2, isF 20 h9, no 27 h10, isF 31 h10, isT 44 h11, isF 51 h12]
            · exact run (args := [.agg #[.int .i64 k, .int .u8 p, .int .u32 sa, .int .i64 sb, .int .u32 da, .int .i64 db, .int .u32 e, .int .u16 f, .int .u16 t, .int .u32 ia, .int .u16 ip], .agg #[.int .i64 k2, .int .u8 p2, .int .u32 sa2, .int .i64 sb2, .int .u32 da2, .int .i64 db2, .int .u32 e2, .int .u16 f2, .int .u16 t2, .int .u32 ia2, .int .u16 ip2]]) [no 6 h1, isF 10 h1, isT 16 h2, isF 20 h9, no 27 h10, isF 31 h10, isT 44 h11, isT 51 h12]
        · exact run (args := [.agg #[.int .i64 k, .int .u8 p, .int .u32 sa, .int .i64 sb, .int .u32 da, .int .i64 db, .int .u32 e, .int .u16 f, .int .u16 t, .int .u32 ia, .int .u16 ip], .agg #[.int .i64 k2, .int .u8 p2, .int .u32 sa2, .int .i64 sb2, .int .u32 da2, .int .i64 db2, .int .u32 e2, .int .u16 f2, .int .u16 t2, .int .u32 ia2, .int .u16 ip2]]) [no 6 h1, isF 10 h1, isT 16 h2, isF 20 h9, yes 27 h10]
      · exact run (args := [.agg #[.int .i64 k, .int .u8 p, .int .u32 sa, .int .i64 sb, .int .u32 da, .int .i64 db, .int .u32 e, .int .u16 f, .int .u16 t, .int .u32 ia, .int .u16 ip], .agg #[.int .i64 k2, .int .u8 p2, .int .u32 sa2, .int .i64 sb2, .int .u32 da2, .int .i64 db2, .int .u32 e2, .int .u16 f2, .int .u16 t2, .int .u32 ia2, .int .u16 ip2]]) [no 6 h1, isF 10 h1, isT 16 h2, isT 20 h9]
  · cases h13 : (k2 != 3)
    · cases h14 : (p != p2)
      · cases h15 : (k == 3)
        · cases h16 : (e2 == e)
          · exact run (args := [.agg #[.int .i64 k, .int .u8 p, .int .u32 sa, .int .i64 sb, .int .u32 da, .int .i64 db, .int .u32 e, .int .u16 f, .int .u16 t, .int .u32 ia, .int .u16 ip], .agg #[.int .i64 k2, .int .u8 p2, .int .u32 sa2, .int .i64 sb2, .int .u32 da2, .int .i64 db2, .int .u32 e2, .int .u16 f2, .int .u16 t2, .int .u32 ia2, .int .u16 ip2]]) [yes 6 h1, isF 14 h13, isF 20 h14, isF 35 h15, isF 48 h16]
          · cases h17 : (decide (f ≤ f2))
            · exact run (args := [.agg #[.int .i64 k, .int .u8 p, .int .u32 sa, .int .i64 sb, .int .u32 da, .int .i64 db, .int .u32 e, .int .u16 f, .int .u16 t, .int .u32 ia, .int .u16 ip], .agg #[.int .i64 k2, .int .u8 p2, .int .u32 sa2, .int .i64 sb2, .int .u32 da2, .int .i64 db2, .int .u32 e2, .int .u16 f2, .int .u16 t2, .int .u32 ia2, .int .u16 ip2]]) [yes 6 h1, isF 14 h13, isF 20 h14, isF 35 h15, isT 48 h16, isF 55 h17]
            · exact run (args := [.agg #[.int .i64 k, .int .u8 p, .int .u32 sa, .int .i64 sb, .int .u32 da, .int .i64 db, .int .u32 e, .int .u16 f, .int .u16 t, .int .u32 ia, .int .u16 ip], .agg #[.int .i64 k2, .int .u8 p2, .int .u32 sa2, .int .i64 sb2, .int .u32 da2, .int .i64 db2, .int .u32 e2, .int .u16 f2, .int .u16 t2, .int .u32 ia2, .int .u16 ip2]]) [yes 6 h1, isF 14 h13, isF 20 h14, isF 35 h15, isT 48 h16, isT 55 h17]
        · cases h18 : (ia2 == ia && (ip2 == ip && true))
          · cases h19 : (e2 == e)
            · exact run (args := [.agg #[.int .i64 k, .int .u8 p, .int .u32 sa, .int .i64 sb, .int .u32 da, .int .i64 db, .int .u32 e, .int .u16 f, .int .u16 t, .int .u32 ia, .int .u16 ip], .agg #[.int .i64 k2, .int .u8 p2, .int .u32 sa2, .int .i64 sb2, .int .u32 da2, .int .i64 db2, .int .u32 e2, .int .u16 f2, .int .u16 t2, .int .u32 ia2, .int .u16 ip2]]) [yes 6 h1, isF 14 h13, isF 20 h14, isT 35 h15, no 42 h18, isF 48 h19]
            · cases h20 : (decide (f ≤ f2))
              · exact run (args := [.agg #[.int .i64 k, .int .u8 p, .int .u32 sa, .int .i64 sb, .int .u32 da, .int .i64 db, .int .u32 e, .int .u16 f, .int .u16 t, .int .u32 ia, .int .u16 ip], .agg #[.int .i64 k2, .int .u8 p2, .int .u32 sa2, .int .i64 sb2, .int .u32 da2, .int .i64 db2, .int .u32 e2, .int .u16 f2, .int .u16 t2, .int .u32 ia2, .int .u16 ip2]]) [yes 6 h1, isF 14 h13, isF 20 h14, isT 35 h15, no 42 h18, isT 48 h19, isF 55 h20]
              · exact run (args := [.agg #[.int .i64 k, .int .u8 p, .int .u32 sa, .int .i64 sb, .int .u32 da, .int .i64 db, .int .u32 e, .int .u16 f, .int .u16 t, .int .u32 ia, .int .u16 ip], .agg #[.int .i64 k2, .int .u8 p2, .int .u32 sa2, .int .i64 sb2, .int .u32 da2, .int .i64 db2, .int .u32 e2, .int .u16 f2, .int .u16 t2, .int .u32 ia2, .int .u16 ip2]]) [yes 6 h1, isF 14 h13, isF 20 h14, isT 35 h15, no 42 h18, isT 48 h19, isT 55 h20]
          · exact run (args := [.agg #[.int .i64 k, .int .u8 p, .int .u32 sa, .int .i64 sb, .int .u32 da, .int .i64 db, .int .u32 e, .int .u16 f, .int .u16 t, .int .u32 ia, .int .u16 ip], .agg #[.int .i64 k2, .int .u8 p2, .int .u32 sa2, .int .i64 sb2, .int .u32 da2, .int .i64 db2, .int .u32 e2, .int .u16 f2, .int .u16 t2, .int .u32 ia2, .int .u16 ip2]]) [yes 6 h1, isF 14 h13, isF 20 h14, isT 35 h15, yes 42 h18]
      · cases h21 : (p != 0)
        · cases h22 : (k == 3)
          · cases h23 : (e2 == e)
            · exact run (args := [.agg #[.int .i64 k, .int .u8 p, .int .u32 sa, .int .i64 sb, .int .u32 da, .int .i64 db, .int .u32 e, .int .u16 f, .int .u16 t, .int .u32 ia, .int .u16 ip], .agg #[.int .i64 k2, .int .u8 p2, .int .u32 sa2, .int .i64 sb2, .int .u32 da2, .int .i64 db2, .int .u32 e2, .int .u16 f2, .int .u16 t2, .int .u32 ia2, .int .u16 ip2]]) [yes 6 h1, isF 14 h13, isT 20 h14, isF 24 h21, no 31 h22, isF 35 h22, isF 48 h23]
            · cases h24 : (decide (f ≤ f2))
              · exact run (args := [.agg #[.int .i64 k, .int .u8 p, .int .u32 sa, .int .i64 sb, .int .u32 da, .int .i64 db, .int .u32 e, .int .u16 f, .int .u16 t, .int .u32 ia, .int .u16 ip], .agg #[.int .i64 k2, .int .u8 p2, .int .u32 sa2, .int .i64 sb2, .int .u32 da2, .int .i64 db2, .int .u32 e2, .int .u16 f2, .int .u16 t2, .int .u32 ia2, .int .u16 ip2]]) [yes 6 h1, isF 14 h13, isT 20 h14, isF 24 h21, no 31 h22, isF 35 h22, isT 48 h23, isF 55 h24]
              · exact run (args := [.agg #[.int .i64 k, .int .u8 p, .int .u32 sa, .int .i64 sb, .int .u32 da, .int .i64 db, .int .u32 e, .int .u16 f, .int .u16 t, .int .u32 ia, .int .u16 ip], .agg #[.int .i64 k2, .int .u8 p2, .int .u32 sa2, .int .i64 sb2, .int .u32 da2, .int .i64 db2, .int .u32 e2, .int .u16 f2, .int .u16 t2, .int .u32 ia2, .int .u16 ip2]]) [yes 6 h1, isF 14 h13, isT 20 h14, isF 24 h21, no 31 h22, isF 35 h22, isT 48 h23, isT 55 h24]
          · exact run (args := [.agg #[.int .i64 k, .int .u8 p, .int .u32 sa, .int .i64 sb, .int .u32 da, .int .i64 db, .int .u32 e, .int .u16 f, .int .u16 t, .int .u32 ia, .int .u16 ip], .agg #[.int .i64 k2, .int .u8 p2, .int .u32 sa2, .int .i64 sb2, .int .u32 da2, .int .i64 db2, .int .u32 e2, .int .u16 f2, .int .u16 t2, .int .u32 ia2, .int .u16 ip2]]) [yes 6 h1, isF 14 h13, isT 20 h14, isF 24 h21, yes 31 h22]
        · exact run (args := [.agg #[.int .i64 k, .int .u8 p, .int .u32 sa, .int .i64 sb, .int .u32 da, .int .i64 db, .int .u32 e, .int .u16 f, .int .u16 t, .int .u32 ia, .int .u16 ip], .agg #[.int .i64 k2, .int .u8 p2, .int .u32 sa2, .int .i64 sb2, .int .u32 da2, .int .i64 db2, .int .u32 e2, .int .u16 f2, .int .u16 t2, .int .u32 ia2, .int .u16 ip2]]) [yes 6 h1, isF 14 h13, isT 20 h14, isT 24 h21]
    · exact run (args := [.agg #[.int .i64 k, .int .u8 p, .int .u32 sa, .int .i64 sb, .int .u32 da, .int .i64 db, .int .u32 e, .int .u16 f, .int .u16 t, .int .u32 ia, .int .u16 ip], .agg #[.int .i64 k2, .int .u8 p2, .int .u32 sa2, .int .i64 sb2, .int .u32 da2, .int .i64 db2, .int .u32 e2, .int .u16 f2, .int .u16 t2, .int .u32 ia2, .int .u16 ip2]]) [yes 6 h1, isT 14 h13]
def rx_Check_v (o pi pb : Int) (v : Value) (k p sa sb da db e f t ia ip : Int) : Value := (bif (k == 1) then (bif (p == 0) then (bif (ia == 0 && (ip == 0 && true)) then (bif (mayP sa sb) then (bif (mayP da db) then (bif (decide (f > 0)) then (bif (decide (f ≤ t)) then (bif (hasP pi pb e) then (.int .i64 2) else (.int .i64 0)) else (.int .i64 2)) else (.int .i64 2)) else (.int .i64 2)) else (.int .i64 2)) else (.int .i64 2)) else (bif (p == 1) then (bif (ia == 0 && (ip == 0 && true)) then (bif (mayP sa sb) then (bif (mayP da db) then (bif (decide (f > 0)) then (bif (decide (f ≤ t)) then (bif (hasP pi pb e) then (.int .i64 2) else (.int .i64 0)) else (.int .i64 2)) else (.int .i64 2)) else (.int .i64 2)) else (.int .i64 2)) else (.int .i64 2)) else (bif (p == 6) then (bif (ia == 0 && (ip == 0 && true)) then (bif (mayP sa sb) then (bif (mayP da db) then (bif (decide (f > 0)) then (bif (decide (f ≤ t)) then (bif (hasP pi pb e) then (.int .i64 2) else (.int .i64 0)) else (.int .i64 2)) else (.int .i64 2)) else (.int .i64 2)) else (.int .i64 2)) else (.int .i64 2)) else (bif (p == 17) then (bif (ia == 0 && (ip == 0 && true)) then (bif (mayP sa sb) then (bif (mayP da db) then (bif (decide (f > 0)) then (bif (decide (f ≤ t)) then (bif (hasP pi pb e) then (.int .i64 2) else (.int .i64 0)) else (.int .i64 2)) else (.int .i64 2)) else (.int .i64 2)) else (.int .i64 2)) else (.int .i64 2)) else (.int .i64 2))))) else (bif (k == 2) then (bif (p == 0) then (bif (ia == 0 && (ip == 0 && true)) then (bif (mayP sa sb) then (bif (mayP da db) then (bif (decide (f > 0)) then (bif (decide (f ≤ t)) then (bif (e == 0) then (.int .i64 0) else (.int .i64 2)) else (.int .i64 2)) else (.int .i64 2)) else (.int .i64 2)) else (.int .i64 2)) else (.int .i64 2)) else (bif (p == 1) then (bif (ia == 0 && (ip == 0 && true)) then (bif (mayP sa sb) then (bif (mayP da db) then (bif (decide (f > 0)) then (bif (decide (f ≤ t)) then (bif (e == 0) then (.int .i64 0) else (.int .i64 2)) else (.int .i64 2)) else (.int .i64 2)) else (.int .i64 2)) else (.int .i64 2)) else (.int .i64 2)) else (bif (p == 6) then (bif (ia == 0 && (ip == 0 && true)) then (bif (mayP sa sb) then (bif (mayP da db) then (bif (decide (f > 0)) then (bif (decide (f ≤ t)) then (bif (e == 0) then (.int .i64 0) else (.int .i64 2)) else (.int .i64 2)) else (.int .i64 2)) else (.int .i64 2)) else (.int .i64 2)) else (.int .i64 2)) else (bif (p == 17) then (bif (ia == 0 && (ip == 0 && true)) then (bif (mayP sa sb) then (bif (mayP da db) then (bif (decide (f > 0)) then (bif (decide (f ≤ t)) then (bif (e == 0) then (.int .i64 0) else (.int .i64 2)) else (.int .i64 2)) else (.int .i64 2)) else (.int .i64 2)) else (.int .i64 2)) else (.int .i64 2)) else (.int .i64 2))))) else (bif (k == 3) then (bif (sa == 0 && (sb == 0 && true)) then (bif (p == 6) then (bif (da == 0 && (db == 0 && true)) then (bif (hasP pi pb e) then (.int .i64 2) else (bif (decide (f > 0)) then (bif (t == f) then (bif (hasP pi pb ia) then (bif (decide (ip > 0)) then (.int .i64 0) else (.int .i64 2)) else (.int .i64 2)) else (.int .i64 2)) else (.int .i64 2))) else (.int .i64 2)) else (bif (da == 0 && (db == 0 && true)) then (bif (p == 17) then (bif (hasP pi pb e) then (.int .i64 2) else (bif (decide (f > 0)) then (bif (t == f) then (bif (hasP pi pb ia) then (bif (decide (ip > 0)) then (.int .i64 0) else (.int .i64 2)) else (.int .i64 2)) else (.int .i64 2)) else (.int .i64 2))) else (.int .i64 2)) else (.int .i64 2))) else (bif (p == 6) then (.int .i64 2) else (.int .i64 2))) else (.int .i64 2))))
theorem rx_Check {A : Rx.Amb} (o pi pb : Int) (v : Value) (k p sa sb da db e f t ia ip : Int) (hpi : 0 ≤ pi ∧ pi ≤ 4294967295) (hr : (Rule.mk k p sa sb da db e f t ia ip).Ok) (hv : inC 2 v = true) : CallJ Tryz.prog A 93 [.pointer (some ⟨0, 0, some 0⟩), .agg #[.int .i64 k, .int .u8 p, .int .u32 sa, .int .i64 sb, .int .u32 da, .int .i64 db, .int .u32 e, .int .u16 f, .int .u16 t, .int .u32 ia, .int .u16 ip]] [(0, ([.bool true, .int .u32 o, .int .u32 pi, .int .i64 pb, v], 130, false))] 2 (rx_Check_v o pi pb v k p sa sb da db e f t ia ip) [(0, ([.bool true, .int .u32 o, .int .u32 pi, .int .i64 pb, v], 130, false))] 2 := by
  unfold rx_Check_v
  obtain ⟨r1, r2, r3, r4, r5, r6, r7, r8⟩ := hr
  simp only at r1 r2 r3 r4 r5 r6 r7 r8
  have hB : inBlks 2 [(0, ([.bool true, .int .u32 o, .int .u32 pi, .int .i64 pb, v], 130, false))] = true := by
    simp only [inBlks, List.all_cons, List.all_nil, hv]
    rfl
  cases h1 : (k == 1)
  · let z1 : EvL A := [no 21 h1]
    cases h2 : (k == 2)
    · let z2 : EvL A := z1 ++ [no 24 h2]
      cases h3 : (k == 3)
      · exact cB hB 3 (z2 ++ [no 27 h3])
      · let z3 : EvL A := z2 ++ [yes 27 h3]
        cases h4 : (sa == 0 && (sb == 0 && true))
        · cases h5 : (p == 6)
          · exact cB hB 4 (z3 ++ [isF 36 h4, isF 46 h5])
          · exact cB hB 4 (z3 ++ [isF 36 h4, isT 46 h5])
        · let z4 : EvL A := z3 ++ [isT 36 h4]
          cases h6 : (p == 6)
          · cases h7 : (da == 0 && (db == 0 && true))
            · exact cB hB 4 (z4 ++ [isF 46 h6, isF 53 h7])
            · let z5 : EvL A := z4 ++ [isF 46 h6, isT 53 h7]
              cases h8 : (p == 17)
              · exact cB hB 4 (z5 ++ [isF 56 h8])
              · let z6 : EvL A := z5 ++ [isT 56 h8, hE 81 pi pb e (by omega) (by omega)]
                cases h9 : (hasP pi pb e)
                · cases h10 : (decide (f > 0))
                  · exact cB hB 4 (z6 ++ [nisT 87 h9, isF 92 h10])
                  · cases h11 : (t == f)
                    · exact cB hB 4 (z6 ++ [nisT 87 h9, isT 92 h10, isF 99 h11])
                    · let z7 : EvL A := z6 ++ [nisT 87 h9, isT 92 h10, isT 99 h11, hE 125 pi pb ia (by omega) (by omega)]
                      cases h12 : (hasP pi pb ia)
                      · exact cB hB 4 (z7 ++ [isF 130 h12])
                      · cases h13 : (decide (ip > 0))
                        · exact cB hB 4 (z7 ++ [isT 130 h12, nyes 141 h13])
                        · exact cB hB 4 (z7 ++ [isT 130 h12, nno 141 h13])
                · exact cB hB 4 (z6 ++ [nisF 87 h9])
          · cases h14 : (da == 0 && (db == 0 && true))
            · exact cB hB 4 (z4 ++ [isT 46 h6, isF 53 h14])
            · let z8 : EvL A := z4 ++ [isT 46 h6, isT 53 h14, hE 81 pi pb e (by omega) (by omega)]
              cases h15 : (hasP pi pb e)
              · cases h16 : (decide (f > 0))
                · exact cB hB 4 (z8 ++ [nisT 87 h15, isF 92 h16])
                · cases h17 : (t == f)
                  · exact cB hB 4 (z8 ++ [nisT 87 h15, isT 92 h16, isF 99 h17])
                  · let z9 : EvL A := z8 ++ [nisT 87 h15, isT 92 h16, isT 99 h17, hE 125 pi pb ia (by omega) (by omega)]
                    cases h18 : (hasP pi pb ia)
                    · exact cB hB 4 (z9 ++ [isF 130 h18])
                    · cases h19 : (decide (ip > 0))
                      · exact cB hB 4 (z9 ++ [isT 130 h18, nyes 141 h19])
                      · exact cB hB 4 (z9 ++ [isT 130 h18, nno 141 h19])
              · exact cB hB 4 (z8 ++ [nisF 87 h15])
    · let z10 : EvL A := z1 ++ [yes 24 h2]
      cases h20 : (p == 0)
      · let z11 : EvL A := z10 ++ [no 49 h20]
        cases h21 : (p == 1)
        · let z12 : EvL A := z11 ++ [no 62 h21]
          cases h22 : (p == 6)
          · cases h23 : (p == 17)
            · exact cB hB 5 (z12 ++ [no 75 h22, no 88 h23])
            · let z13 : EvL A := z12 ++ [no 75 h22, yes 88 h23]
              cases h24 : (ia == 0 && (ip == 0 && true))
              · exact cB hB 5 (z13 ++ [nyes 102 h24])
              · let z14 : EvL A := z13 ++ [nno 102 h24, mE 105 sa sb (by omega)]
                cases h25 : (mayP sa sb)
                · exact cB hB 5 (z14 ++ [isF 106 h25])
                · let z15 : EvL A := z14 ++ [isT 106 h25, mE 109 da db (by omega)]
                  cases h26 : (mayP da db)
                  · exact cB hB 5 (z15 ++ [isF 111 h26])
                  · cases h27 : (decide (f > 0))
                    · exact cB hB 5 (z15 ++ [isT 111 h26, isF 116 h27])
                    · cases h28 : (decide (f ≤ t))
                      · exact cB hB 5 (z15 ++ [isT 111 h26, isT 116 h27, isF 125 h28])
                      · cases h29 : (e == 0)
                        · exact cB hB 5 (z15 ++ [isT 111 h26, isT 116 h27, isT 125 h28, nyes 133 h29])
                        · exact cB hB 5 (z15 ++ [isT 111 h26, isT 116 h27, isT 125 h28, nno 133 h29])
          · cases h30 : (ia == 0 && (ip == 0 && true))
            · exact cB hB 5 (z12 ++ [yes 75 h22, nyes 89 h30])
            · let z16 : EvL A := z12 ++ [yes 75 h22, nno 89 h30, mE 92 sa sb (by omega)]
              cases h31 : (mayP sa sb)
              · exact cB hB 5 (z16 ++ [isF 93 h31])
              · let z17 : EvL A := z16 ++ [isT 93 h31, mE 96 da db (by omega)]
                cases h32 : (mayP da db)
                · exact cB hB 5 (z17 ++ [isF 98 h32])
                · cases h33 : (decide (f > 0))
                  · exact cB hB 5 (z17 ++ [isT 98 h32, isF 103 h33])
                  · cases h34 : (decide (f ≤ t))
                    · exact cB hB 5 (z17 ++ [isT 98 h32, isT 103 h33, isF 112 h34])
                    · cases h35 : (e == 0)
                      · exact cB hB 5 (z17 ++ [isT 98 h32, isT 103 h33, isT 112 h34, nyes 120 h35])
                      · exact cB hB 5 (z17 ++ [isT 98 h32, isT 103 h33, isT 112 h34, nno 120 h35])
        · cases h36 : (ia == 0 && (ip == 0 && true))
          · exact cB hB 5 (z11 ++ [yes 62 h21, nyes 76 h36])
          · let z18 : EvL A := z11 ++ [yes 62 h21, nno 76 h36, mE 79 sa sb (by omega)]
            cases h37 : (mayP sa sb)
            · exact cB hB 5 (z18 ++ [isF 80 h37])
            · let z19 : EvL A := z18 ++ [isT 80 h37, mE 83 da db (by omega)]
              cases h38 : (mayP da db)
              · exact cB hB 5 (z19 ++ [isF 85 h38])
              · cases h39 : (decide (f > 0))
                · exact cB hB 5 (z19 ++ [isT 85 h38, isF 90 h39])
                · cases h40 : (decide (f ≤ t))
                  · exact cB hB 5 (z19 ++ [isT 85 h38, isT 90 h39, isF 99 h40])
                  · cases h41 : (e == 0)
                    · exact cB hB 5 (z19 ++ [isT 85 h38, isT 90 h39, isT 99 h40, nyes 107 h41])
                    · exact cB hB 5 (z19 ++ [isT 85 h38, isT 90 h39, isT 99 h40, nno 107 h41])
      · cases h42 : (ia == 0 && (ip == 0 && true))
        · exact cB hB 5 (z10 ++ [yes 49 h20, nyes 63 h42])
        · let z20 : EvL A := z10 ++ [yes 49 h20, nno 63 h42, mE 66 sa sb (by omega)]
          cases h43 : (mayP sa sb)
          · exact cB hB 5 (z20 ++ [isF 67 h43])
          · let z21 : EvL A := z20 ++ [isT 67 h43, mE 70 da db (by omega)]
            cases h44 : (mayP da db)
            · exact cB hB 5 (z21 ++ [isF 72 h44])
            · cases h45 : (decide (f > 0))
              · exact cB hB 5 (z21 ++ [isT 72 h44, isF 77 h45])
              · cases h46 : (decide (f ≤ t))
                · exact cB hB 5 (z21 ++ [isT 72 h44, isT 77 h45, isF 86 h46])
                · cases h47 : (e == 0)
                  · exact cB hB 5 (z21 ++ [isT 72 h44, isT 77 h45, isT 86 h46, nyes 94 h47])
                  · exact cB hB 5 (z21 ++ [isT 72 h44, isT 77 h45, isT 86 h46, nno 94 h47])
  · let z22 : EvL A := [yes 21 h1]
    cases h48 : (p == 0)
    · let z23 : EvL A := z22 ++ [no 46 h48]
      cases h49 : (p == 1)
      · let z24 : EvL A := z23 ++ [no 59 h49]
        cases h50 : (p == 6)
        · cases h51 : (p == 17)
          · exact cB hB 5 (z24 ++ [no 72 h50, no 85 h51])
          · let z25 : EvL A := z24 ++ [no 72 h50, yes 85 h51]
            cases h52 : (ia == 0 && (ip == 0 && true))
            · exact cB hB 5 (z25 ++ [nyes 99 h52])
            · let z26 : EvL A := z25 ++ [nno 99 h52, mE 102 sa sb (by omega)]
              cases h53 : (mayP sa sb)
              · exact cB hB 5 (z26 ++ [isF 103 h53])
              · let z27 : EvL A := z26 ++ [isT 103 h53, mE 106 da db (by omega)]
                cases h54 : (mayP da db)
                · exact cB hB 5 (z27 ++ [isF 108 h54])
                · cases h55 : (decide (f > 0))
                  · exact cB hB 5 (z27 ++ [isT 108 h54, isF 113 h55])
                  · cases h56 : (decide (f ≤ t))
                    · exact cB hB 5 (z27 ++ [isT 108 h54, isT 113 h55, isF 122 h56])
                    · cases h57 : (hasP pi pb e)
                      · exact cB hB 5 (z27 ++ [isT 108 h54, isT 113 h55, isT 122 h56, hE 147 pi pb e (by omega) (by omega), no 156 (b := !(!(hasP pi pb e))) (by rw [h57]; rfl)])
                      · exact cB hB 5 (z27 ++ [isT 108 h54, isT 113 h55, isT 122 h56, hE 147 pi pb e (by omega) (by omega), yes 156 (b := !(!(hasP pi pb e))) (by rw [h57]; rfl)])
        · cases h58 : (ia == 0 && (ip == 0 && true))
          · exact cB hB 5 (z24 ++ [yes 72 h50, nyes 86 h58])
          · let z28 : EvL A := z24 ++ [yes 72 h50, nno 86 h58, mE 89 sa sb (by omega)]
            cases h59 : (mayP sa sb)
            · exact cB hB 5 (z28 ++ [isF 90 h59])
            · let z29 : EvL A := z28 ++ [isT 90 h59, mE 93 da db (by omega)]
              cases h60 : (mayP da db)
              · exact cB hB 5 (z29 ++ [isF 95 h60])
              · cases h61 : (decide (f > 0))
                · exact cB hB 5 (z29 ++ [isT 95 h60, isF 100 h61])
                · cases h62 : (decide (f ≤ t))
                  · exact cB hB 5 (z29 ++ [isT 95 h60, isT 100 h61, isF 109 h62])
                  · cases h63 : (hasP pi pb e)
                    · exact cB hB 5 (z29 ++ [isT 95 h60, isT 100 h61, isT 109 h62, hE 134 pi pb e (by omega) (by omega), no 143 (b := !(!(hasP pi pb e))) (by rw [h63]; rfl)])
                    · exact cB hB 5 (z29 ++ [isT 95 h60, isT 100 h61, isT 109 h62, hE 134 pi pb e (by omega) (by omega), yes 143 (b := !(!(hasP pi pb e))) (by rw [h63]; rfl)])
      · cases h64 : (ia == 0 && (ip == 0 && true))
        · exact cB hB 5 (z23 ++ [yes 59 h49, nyes 73 h64])
        · let z30 : EvL A := z23 ++ [yes 59 h49, nno 73 h64, mE 76 sa sb (by omega)]
          cases h65 : (mayP sa sb)
          · exact cB hB 5 (z30 ++ [isF 77 h65])
          · let z31 : EvL A := z30 ++ [isT 77 h65, mE 80 da db (by omega)]
            cases h66 : (mayP da db)
            · exact cB hB 5 (z31 ++ [isF 82 h66])
            · cases h67 : (decide (f > 0))
              · exact cB hB 5 (z31 ++ [isT 82 h66, isF 87 h67])
              · cases h68 : (decide (f ≤ t))
                · exact cB hB 5 (z31 ++ [isT 82 h66, isT 87 h67, isF 96 h68])
                · cases h69 : (hasP pi pb e)
                  · exact cB hB 5 (z31 ++ [isT 82 h66, isT 87 h67, isT 96 h68, hE 121 pi pb e (by omega) (by omega), no 130 (b := !(!(hasP pi pb e))) (by rw [h69]; rfl)])
                  · exact cB hB 5 (z31 ++ [isT 82 h66, isT 87 h67, isT 96 h68, hE 121 pi pb e (by omega) (by omega), yes 130 (b := !(!(hasP pi pb e))) (by rw [h69]; rfl)])
    · cases h70 : (ia == 0 && (ip == 0 && true))
      · exact cB hB 5 (z22 ++ [yes 46 h48, nyes 60 h70])
      · let z32 : EvL A := z22 ++ [yes 46 h48, nno 60 h70, mE 63 sa sb (by omega)]
        cases h71 : (mayP sa sb)
        · exact cB hB 5 (z32 ++ [isF 64 h71])
        · let z33 : EvL A := z32 ++ [isT 64 h71, mE 67 da db (by omega)]
          cases h72 : (mayP da db)
          · exact cB hB 5 (z33 ++ [isF 69 h72])
          · cases h73 : (decide (f > 0))
            · exact cB hB 5 (z33 ++ [isT 69 h72, isF 74 h73])
            · cases h74 : (decide (f ≤ t))
              · exact cB hB 5 (z33 ++ [isT 69 h72, isT 74 h73, isF 83 h74])
              · cases h75 : (hasP pi pb e)
                · exact cB hB 5 (z33 ++ [isT 69 h72, isT 74 h73, isT 83 h74, hE 108 pi pb e (by omega) (by omega), no 117 (b := !(!(hasP pi pb e))) (by rw [h75]; rfl)])
                · exact cB hB 5 (z33 ++ [isT 69 h72, isT 74 h73, isT 83 h74, hE 108 pi pb e (by omega) (by omega), yes 117 (b := !(!(hasP pi pb e))) (by rw [h75]; rfl)])
end Go.Proofs.YtilfcikhipadpaaGreatDoor
end

section
/- rules: what clash and Check tell (plain). -/
set_option linter.unusedVariables false
set_option linter.unusedSimpArgs false
namespace Go.Proofs.YtilfcikhipadpaaGreatDoor
open Go.RowKit Go.Lib Rx
def whoR (o : Int) (r : Rule) : Rule := if r.k = 2 then { r with e := o } else r
def clq0 (a b : Rule) : Bool := (decide (a.k = 3) && !(decide (b.p ≠ a.p) && (decide (b.p ≠ 0) || decide (b.k = 3)))) && ((decide (b.k = 3) && (decide (a.ia = b.ia) && decide (a.ip = b.ip))) || (decide (a.e = b.e) && decide (b.f ≤ a.f) && decide (a.f ≤ b.t)))
def clq (a b : Rule) : Bool := if a.k = 3 then clq0 a b else clq0 b a
def chq (ip b : Int) (r : Rule) : Int := if mayR ip b r = true then 0 else 2
theorem bool_ite (c a b : Bool) : (bif c then Value.bool a else Value.bool b) = Value.bool (bif c then a else b) := by cases c <;> rfl
theorem int_ite (c : Bool) (k : IntKind) (a b : Int) : (bif c then Value.int k a else Value.int k b) = Value.int k (bif c then a else b) := by cases c <;> rfl
set_option maxHeartbeats 4000000 in
theorem clash_val (a b : Rule) : rx_clash_v a.k a.p a.sa a.sb a.da a.db a.e a.f a.t a.ia a.ip b.k b.p b.sa b.sb b.da b.db b.e b.f b.t b.ia b.ip = .bool (clq a b) := by
  unfold rx_clash_v clq clq0
  simp only [bool_ite, Value.bool.injEq, Bool.cond_eq_ite, bne_iff_ne, beq_iff_eq, Bool.and_true, decide_eq_true_eq, Bool.and_eq_true]
  grind
set_option maxHeartbeats 4000000 in
theorem check_val (o pi pb : Int) (v : Value) (r : Rule) : rx_Check_v o pi pb v r.k r.p r.sa r.sb r.da r.db r.e r.f r.t r.ia r.ip = .int .i64 (chq pi pb r) := by
  unfold rx_Check_v chq mayR srOk stOk
  simp only [int_ite, Value.int.injEq, true_and, Bool.cond_eq_ite, bne_iff_ne, beq_iff_eq, Bool.and_true, decide_eq_true_eq, Bool.and_eq_true]
  grind
end Go.Proofs.YtilfcikhipadpaaGreatDoor
end

section
/- slices.IndexFunc over rules: by a loop, reckoned. -/
set_option linter.unusedVariables false
set_option linter.unusedSimpArgs false
namespace Go.Proofs.YtilfcikhipadpaaGreatDoor
open Go.RowKit Go.Lib Rx

def ruL (r : Rule) : List Value := [.int .i64 r.k, .int .u8 r.p, .int .u32 r.sa, .int .i64 r.sb, .int .u32 r.da, .int .i64 r.db, .int .u32 r.e, .int .u16 r.f, .int .u16 r.t, .int .u32 r.ia, .int .u16 r.ip]
theorem ruL_len (r : Rule) : (ruL r).length = 11 := rfl
@[reducible] def ptr (i : Nat) : Value := .pointer (some ⟨i, 0, some 0⟩)
@[reducible] def ruB (rs : List Rule) : Blk := (rs.flatMap ruL, 68, true)
variable {A : Amb} {rs : List Rule} {c : Nat} {p : Rule → Bool} {g : FuncId} {b1 b2 : Blk}
@[reducible] def ixV (rs : List Rule) (c : Nat) (g : FuncId) (i : Nat) : List (Nat × Value) := [(0, .slice (some ⟨0, 0, some 0⟩) rs.length c), (1, .func (.func g) #[] #[ptr 1, ptr 2]), (7, .int .i64 (rs.length : Int)), (8, .int .i64 (i : Int))]
@[reducible] def ixM (rs : List Rule) (b1 b2 : Blk) : List (Nat × Blk) := [(0, ruB rs), (1, b1), (2, b2)]
theorem wrap_next {i : Nat} (h : i < 1000) : IntKind.wrap .i64 ((i : Int) + 1) = ((i + 1 : Nat) : Int) := by
  simp only [IntKind.wrap, IntKind.bits]
  first | omega | (simp; omega)
/-! ### Static -/
@[reducible] def stB (r : Rule) (q ei ep : Int) : Bool := decide (r.k = 3) && decide (r.p = q) && decide (r.e = ei) && decide (r.f = ep)
@[reducible] def tbM (o ip b : Int) (rs : List Rule) (c : Nat) : List (Nat × Blk) := [(0, ([.bool true, .int .u32 o, .int .u32 ip, .int .i64 b, .slice (some ⟨1, 0, some 0⟩) rs.length c], 130, false)), (1, ruB rs)]
/-! ### Own -/
@[reducible] def owB (r : Rule) (q ei ep : Int) : Bool := (r.k == 3) && ((r.p == q) && ((r.ia == ei) && (r.ip == ep)))
end Go.Proofs.YtilfcikhipadpaaGreatDoor
end

section
/- slices.IndexFunc over rules, of a function with one box: printed from XIxf. -/
set_option linter.unusedVariables false
set_option linter.unusedSimpArgs false
namespace Go.Proofs.YtilfcikhipadpaaGreatDoor
open Go.RowKit Go.Lib Rx
variable {A : Amb} {rs : List Rule} {c : Nat} {p : Rule → Bool} {g : FuncId} {b1 : Blk}
@[reducible] def jxV (rs : List Rule) (c : Nat) (g : FuncId) (i : Nat) : List (Nat × Value) := [(0, .slice (some ⟨0, 0, some 0⟩) rs.length c), (1, .func (.func g) #[] #[ptr 1]), (7, .int .i64 (rs.length : Int)), (8, .int .i64 (i : Int))]
@[reducible] def jxM (rs : List Rule) (b1 : Blk) : List (Nat × Blk) := [(0, ruB rs), (1, b1)]
/-! ### Source -/
@[reducible] def soB (r : Rule) (q si di : Int) : Bool := (r.k != 3) && (((r.p == 0) || (r.p == q)) && (hasP r.sa r.sb si && hasP r.da r.db di))
@[reducible] def woR (o : Int) (r : Rule) : Rule := cond (r.k == 2) { r with e := o } r
end Go.Proofs.YtilfcikhipadpaaGreatDoor
end
