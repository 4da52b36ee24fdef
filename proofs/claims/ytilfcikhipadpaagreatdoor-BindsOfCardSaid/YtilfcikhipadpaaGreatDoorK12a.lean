/- Several texts of this claim, one behind the other. -/
import Derived.Test.YtilfcikhipadpaaGreatDoorK11a
import Derived.KernelRfl

section
/- what a first packet may become: printed (gen/of.py). -/
set_option linter.unusedVariables false
namespace Go.Proofs.YtilfcikhipadpaaGreatDoor
open Go.RowKit Go.Lib Rx
theorem b_of1 {A : Amb} {rs : List Rule} {M : List (Nat × Blk)} {o ip b : Int} (hT : IsTab o ip b rs M) (q si sp di dp ki fl ttl : Int) (ask : Bool) (k1 p1 sa1 sb1 da1 db1 e1 f1 t1 ia1 ip1 k2 p2 sa2 sb2 da2 db2 e2 f2 t2 ia2 ip2 k3 p3 sa3 sb3 da3 db3 e3 f3 t3 ia3 ip3 : Int) (b1 b2 b3 O go : Bool) (inn : Int → Bool) (st fl0 : Int) (c1 : ∀ n, 2 ≤ n → CallJ Tryz.prog A 19 [ptr 0, .int .u8 q, .agg #[.int .u32 di, .int .u16 dp]] M n (.tuple #[.agg #[.int .i64 k1, .int .u8 p1, .int .u32 sa1, .int .i64 sb1, .int .u32 da1, .int .i64 db1, .int .u32 e1, .int .u16 f1, .int .u16 t1, .int .u32 ia1, .int .u16 ip1], .bool b1]) M n) (c2 : ∀ n, 2 ≤ n → CallJ Tryz.prog A 152 [ptr 0, .int .u8 q, .agg #[.int .u32 si, .int .u16 sp]] M n (.tuple #[.agg #[.int .i64 k2, .int .u8 p2, .int .u32 sa2, .int .i64 sb2, .int .u32 da2, .int .i64 db2, .int .u32 e2, .int .u16 f2, .int .u16 t2, .int .u32 ia2, .int .u16 ip2], .bool b2]) M n) (c3 : ∀ n, 2 ≤ n → CallJ Tryz.prog A 153 [ptr 0, .agg #[.int .u8 q, .int .u32 si, .int .u16 sp, .int .u32 di, .int .u16 dp]] M n (.tuple #[.agg #[.int .i64 k3, .int .u8 p3, .int .u32 sa3, .int .i64 sb3, .int .u32 da3, .int .i64 db3, .int .u32 e3, .int .u16 f3, .int .u16 t3, .int .u32 ia3, .int .u16 ip3], .bool b3]) M n) (c4 : ∀ n, 2 ≤ n → CallJ Tryz.prog A 20 [ptr 0, .int .u32 si] M n (.bool (inn si)) M n) (c5 : ∀ n, 2 ≤ n → CallJ Tryz.prog A 20 [ptr 0, .int .u32 di] M n (.bool (inn di)) M n) (c6 : ∀ n, 2 ≤ n → CallJ Tryz.prog A 21 [ptr 0, .int .u32 di] M n (.bool O) M n) (hf : fl0 = flowV q) (c7 : ∀ W, A.S W → Calls Tryz.prog 47 #[.int .i64 fl0, .int .u8 fl] W (Ret (.tuple #[.int .i64 st, .bool go]) W)) : CallJ Tryz.prog A 15 [ptr 0, .agg #[.int .u8 q, .int .u32 si, .int .u16 sp, .int .u32 di, .int .u16 dp, .int .i64 ki, .int .u8 fl, .bool ask, .int .u8 ttl]] M 2 (oV 2 (ofR q si sp di dp ki inn b1 b2 b3 O go ask ia1 ip1 e2 f2 e3 f3 t3 st)) (oM 2 73 M (ofR q si sp di dp ki inn b1 b2 b3 O go ask ia1 ip1 e2 f2 e3 f3 t3 st)) (oN (ofR q si sp di dp ki inn b1 b2 b3 O go ask ia1 ip1 e2 f2 e3 f3 t3 st)) := by
  unfold ofR
  have hM := hT.two
  rcases hT with ⟨rfl, rfl⟩ | rfl
  all_goals
    cases h1 : (ki == 3)
    · let p1 : List (Ev Tryz.prog A) := [no 6 h1, callsR 24 7 (c1 7 (by decide)), callsR 35 8 (c4 8 (by decide))]
      cases h2 : (inn si)
      · let p2 : List (Ev Tryz.prog A) := p1 ++ [isF 38 h2]
        cases h3 : (b1)
        · exact fin hM 2 7 (con (p2 ++ [nisT 59 h3, nisT 62 h2]))
        · let p3 : List (Ev Tryz.prog A) := p2 ++ [nisF 59 h3, no 73 h2, yes 75 h3]
          cases h4 : (q == 1)
          · let p4 : List (Ev Tryz.prog A) := p3 ++ [isF 108 h4, does 117 (args := [.int .u8 q]) fun W h => hf ▸ tk_Flow W q, does 120 (args := [.int .i64 fl0, .int .u8 fl]) c7]
            cases h5 : (go)
            · exact fin hM 2 9 (con (p4 ++ [nyes 128 h5]))
            · exact fin hM 9 9 (con (p4 ++ [nno 128 h5]))
          · let p5 : List (Ev Tryz.prog A) := p3 ++ [isT 108 h4]
            cases h6 : (ask)
            · exact fin hM 2 9 (con (p5 ++ []))
            · let p6 : List (Ev Tryz.prog A) := p5 ++ [does 117 (args := [.int .u8 q]) fun W h => hf ▸ tk_Flow W q, does 120 (args := [.int .i64 fl0, .int .u8 fl]) c7]
              cases h7 : (go)
              · exact fin hM 2 9 (con (p6 ++ [nyes 128 h7]))
              · exact fin hM 9 9 (con (p6 ++ [nno 128 h7]))
      · let p7 : List (Ev Tryz.prog A) := p1 ++ [isT 38 h2, callsR 43 8 (c5 8 (by decide))]
        cases h8 : (inn di)
        · let p8 : List (Ev Tryz.prog A) := p7 ++ [isF 44 h8]
          cases h9 : (b1)
          · let p9 : List (Ev Tryz.prog A) := p8 ++ [isF 46 h9, nisT 59 h9, nisF 62 h2, callsR 67 8 (c6 8 (by decide))]
            cases h10 : (O)
            · let p10 : List (Ev Tryz.prog A) := p9 ++ [no 71 h10, yes 73 h2, callsR 84 10 (c2 10 (by decide))]
              cases h11 : (b2)
              · let p11 : List (Ev Tryz.prog A) := p10 ++ [no 92 h11, callsR 95 11 (c3 11 (by decide))]
                cases h12 : (b3)
                · exact fin hM 2 12 (con (p11 ++ [nyes 104 h12]))
                · let p12 : List (Ev Tryz.prog A) := p11 ++ [nno 104 h12, no 136 h9]
                  cases h13 : (q == 1)
                  · let p13 : List (Ev Tryz.prog A) := p12 ++ [isF 154 h13, does 163 (args := [.int .u8 q]) fun W h => hf ▸ tk_Flow W q, does 166 (args := [.int .i64 fl0, .int .u8 fl]) c7]
                    cases h14 : (go)
                    · exact fin hM 2 14 (con (p13 ++ [nyes 174 h14]))
                    · exact fin hM 14 14 (con (p13 ++ [nno 174 h14]))
                  · let p14 : List (Ev Tryz.prog A) := p12 ++ [isT 154 h13]
                    cases h15 : (ask)
                    · exact fin hM 2 14 (con (p14 ++ []))
                    · let p15 : List (Ev Tryz.prog A) := p14 ++ [does 163 (args := [.int .u8 q]) fun W h => hf ▸ tk_Flow W q, does 166 (args := [.int .i64 fl0, .int .u8 fl]) c7]
                      cases h16 : (go)
                      · exact fin hM 2 14 (con (p15 ++ [nyes 174 h16]))
                      · exact fin hM 14 14 (con (p15 ++ [nno 174 h16]))
              · let p16 : List (Ev Tryz.prog A) := p10 ++ [yes 92 h11, no 123 h9]
                cases h17 : (q == 1)
                · let p17 : List (Ev Tryz.prog A) := p16 ++ [isF 141 h17, does 150 (args := [.int .u8 q]) fun W h => hf ▸ tk_Flow W q, does 153 (args := [.int .i64 fl0, .int .u8 fl]) c7]
                  cases h18 : (go)
                  · exact fin hM 2 13 (con (p17 ++ [nyes 161 h18]))
                  · exact fin hM 13 13 (con (p17 ++ [nno 161 h18]))
                · let p18 : List (Ev Tryz.prog A) := p16 ++ [isT 141 h17]
                  cases h19 : (ask)
                  · exact fin hM 2 13 (con (p18 ++ []))
                  · let p19 : List (Ev Tryz.prog A) := p18 ++ [does 150 (args := [.int .u8 q]) fun W h => hf ▸ tk_Flow W q, does 153 (args := [.int .i64 fl0, .int .u8 fl]) c7]
                    cases h20 : (go)
                    · exact fin hM 2 13 (con (p19 ++ [nyes 161 h20]))
                    · exact fin hM 13 13 (con (p19 ++ [nno 161 h20]))
            · exact fin hM 2 7 (con (p9 ++ [yes 71 h10]))
          · let p20 : List (Ev Tryz.prog A) := p8 ++ [isT 46 h9]
            cases h21 : (ia1 == si && (ip1 == sp && true))
            · let p21 : List (Ev Tryz.prog A) := p20 ++ [no 56 h21, nisF 59 h9, yes 73 h2, callsR 84 10 (c2 10 (by decide))]
              cases h22 : (b2)
              · let p22 : List (Ev Tryz.prog A) := p21 ++ [no 92 h22, callsR 95 11 (c3 11 (by decide))]
                cases h23 : (b3)
                · exact fin hM 2 12 (con (p22 ++ [nyes 104 h23]))
                · let p23 : List (Ev Tryz.prog A) := p22 ++ [nno 104 h23, yes 136 h9]
                  cases h24 : (q == 1)
                  · let p24 : List (Ev Tryz.prog A) := p23 ++ [isF 169 h24, does 178 (args := [.int .u8 q]) fun W h => hf ▸ tk_Flow W q, does 181 (args := [.int .i64 fl0, .int .u8 fl]) c7]
                    cases h25 : (go)
                    · exact fin hM 2 16 (con (p24 ++ [nyes 189 h25]))
                    · exact fin hM 16 16 (con (p24 ++ [nno 189 h25]))
                  · let p25 : List (Ev Tryz.prog A) := p23 ++ [isT 169 h24]
                    cases h26 : (ask)
                    · exact fin hM 2 16 (con (p25 ++ []))
                    · let p26 : List (Ev Tryz.prog A) := p25 ++ [does 178 (args := [.int .u8 q]) fun W h => hf ▸ tk_Flow W q, does 181 (args := [.int .i64 fl0, .int .u8 fl]) c7]
                      cases h27 : (go)
                      · exact fin hM 2 16 (con (p26 ++ [nyes 189 h27]))
                      · exact fin hM 16 16 (con (p26 ++ [nno 189 h27]))
              · let p27 : List (Ev Tryz.prog A) := p21 ++ [yes 92 h22, yes 123 h9]
                cases h28 : (q == 1)
                · let p28 : List (Ev Tryz.prog A) := p27 ++ [isF 156 h28, does 165 (args := [.int .u8 q]) fun W h => hf ▸ tk_Flow W q, does 168 (args := [.int .i64 fl0, .int .u8 fl]) c7]
                  cases h29 : (go)
                  · exact fin hM 2 15 (con (p28 ++ [nyes 176 h29]))
                  · exact fin hM 15 15 (con (p28 ++ [nno 176 h29]))
                · let p29 : List (Ev Tryz.prog A) := p27 ++ [isT 156 h28]
                  cases h30 : (ask)
                  · exact fin hM 2 15 (con (p29 ++ []))
                  · let p30 : List (Ev Tryz.prog A) := p29 ++ [does 165 (args := [.int .u8 q]) fun W h => hf ▸ tk_Flow W q, does 168 (args := [.int .i64 fl0, .int .u8 fl]) c7]
                    cases h31 : (go)
                    · exact fin hM 2 15 (con (p30 ++ [nyes 176 h31]))
                    · exact fin hM 15 15 (con (p30 ++ [nno 176 h31]))
            · exact fin hM 2 7 (con (p20 ++ [yes 56 h21]))
        · exact fin hM 2 7 (con (p7 ++ [isT 44 h8]))
    · exact fin hM 2 2 (con [yes 6 h1])
end Go.Proofs.YtilfcikhipadpaaGreatDoor
end

section
/- the document's track: Flow, First: printed (gen/d17.spec.py); what they come to. -/
set_option linter.unusedVariables false
namespace Go.Proofs.YtilfcikhipadpaaGreatDoor
open Go.RowKit Go.Lib Rx
def d17_Flow_v (p : Int) : Value := (bif (p == 17) then (.int .i64 1) else (bif (p == 1) then (.int .i64 2) else (bif (p == 6) then (.int .i64 3) else (.int .i64 0))))
theorem d17_Flow (p : Int) (w : World)  : Calls Tryz.prog 55 #[.int .u8 p] w (Ret (d17_Flow_v p) w) := by
  unfold d17_Flow_v
  cases h1 : (p == 17)
  · cases h2 : (p == 1)
    · cases h3 : (p == 6)
      · exact run (args := [.int .u8 p]) [no 4 h1, no 7 h2, no 10 h3]
      · exact run (args := [.int .u8 p]) [no 4 h1, no 7 h2, yes 10 h3]
    · exact run (args := [.int .u8 p]) [no 4 h1, yes 7 h2]
  · exact run (args := [.int .u8 p]) [yes 4 h1]
def d17_First_v (fl fg : Int) : Value := (bif (decide (fl < 1)) then (.tuple #[.int .i64 0, .bool false]) else (bif (decide (fl > 3)) then (.tuple #[.int .i64 0, .bool false]) else (bif (fl == 3) then (bif ((IntKind.u8.wrap (fg.tdiv 2)).tmod 2 == 1) then (bif ((IntKind.u8.wrap (fg.tdiv 1)).tmod 2 == 1) then (.tuple #[.int .i64 0, .bool false]) else (bif ((IntKind.u8.wrap (fg.tdiv 4)).tmod 2 == 1) then (.tuple #[.int .i64 0, .bool false]) else (bif ((IntKind.u8.wrap (fg.tdiv 16)).tmod 2 == 1) then (.tuple #[.int .i64 0, .bool false]) else (.tuple #[.int .i64 1, .bool true])))) else (.tuple #[.int .i64 0, .bool false])) else (.tuple #[.int .i64 1, .bool true]))))
theorem d17_First (fl fg : Int) (w : World)  : Calls Tryz.prog 54 #[.int .i64 fl, .int .u8 fg] w (Ret (d17_First_v fl fg) w) := by
  unfold d17_First_v
  cases h1 : (decide (fl < 1))
  · cases h2 : (decide (fl > 3))
    · cases h3 : (fl == 3)
      · exact run (args := [.int .i64 fl, .int .u8 fg]) [isF 4 h1, isF 8 h2, isF 11 h3]
      · cases h4 : ((IntKind.u8.wrap (fg.tdiv 2)).tmod 2 == 1)
        · exact run (args := [.int .i64 fl, .int .u8 fg]) [isF 4 h1, isF 8 h2, isT 11 h3, nisT 22 h4]
        · cases h5 : ((IntKind.u8.wrap (fg.tdiv 1)).tmod 2 == 1)
          · cases h6 : ((IntKind.u8.wrap (fg.tdiv 4)).tmod 2 == 1)
            · cases h7 : ((IntKind.u8.wrap (fg.tdiv 16)).tmod 2 == 1)
              · exact run (args := [.int .i64 fl, .int .u8 fg]) [isF 4 h1, isF 8 h2, isT 11 h3, nisF 22 h4, isF 33 h5, isF 44 h6, no 57 h7]
              · exact run (args := [.int .i64 fl, .int .u8 fg]) [isF 4 h1, isF 8 h2, isT 11 h3, nisF 22 h4, isF 33 h5, isF 44 h6, yes 57 h7]
            · exact run (args := [.int .i64 fl, .int .u8 fg]) [isF 4 h1, isF 8 h2, isT 11 h3, nisF 22 h4, isF 33 h5, isT 44 h6]
          · exact run (args := [.int .i64 fl, .int .u8 fg]) [isF 4 h1, isF 8 h2, isT 11 h3, nisF 22 h4, isT 33 h5]
    · exact run (args := [.int .i64 fl, .int .u8 fg]) [isF 4 h1, isT 8 h2]
  · exact run (args := [.int .i64 fl, .int .u8 fg]) [isT 4 h1]

theorem d_Flow (w : World) (p : Int) : Calls Tryz.prog 55 #[.int .u8 p] w (Ret (.int .i64 (flowV p)) w) := by
  have h := d17_Flow p w
  have e : d17_Flow_v p = .int .i64 (flowV p) := by
    unfold d17_Flow_v flowV
    by_cases h17 : p = 17
    · subst h17; rfl
    by_cases h1 : p = 1
    · subst h1; rfl
    by_cases h6 : p = 6
    · subst h6; rfl
    rw [show (p == 17) = false by simpa using h17, show (p == 1) = false by simpa using h1, show (p == 6) = false by simpa using h6, if_neg h1, if_neg h6, if_neg h17]
    rfl
  rwa [e] at h
theorem flowV_is (p : Int) : flowV p = 0 ∨ flowV p = 1 ∨ flowV p = 2 ∨ flowV p = 3 := by
  unfold flowV
  by_cases h1 : p = 1
  · simp [h1]
  by_cases h6 : p = 6
  · simp [h6]
  by_cases h17 : p = 17
  · simp [h17]
  simp [h1, h6, h17]
def fbV (fg : Int) : Bool := (IntKind.u8.wrap (fg.tdiv 2)).tmod 2 == 1 && !((IntKind.u8.wrap (fg.tdiv 1)).tmod 2 == 1) && !((IntKind.u8.wrap (fg.tdiv 4)).tmod 2 == 1) && !((IntKind.u8.wrap (fg.tdiv 16)).tmod 2 == 1)
theorem d_First (w : World) (fl fg : Int) (h : fl = 0 ∨ fl = 1 ∨ fl = 2 ∨ fl = 3) (hf : 0 ≤ fg ∧ fg ≤ 255) : Calls Tryz.prog 54 #[.int .i64 fl, .int .u8 fg] w (Ret (.tuple #[.int .i64 (if firstV fl fg = true then 1 else 0), .bool (firstV fl fg)]) w) := by
  have k := d17_First fl fg w
  rwa [show d17_First_v fl fg = .tuple #[.int .i64 (if firstV fl fg = true then 1 else 0), .bool (firstV fl fg)] by
    rcases h with rfl | rfl | rfl | rfl
    · rfl
    · rfl
    · rfl
    · have key : ∀ i : Fin 256, fbV (i.val : Nat) = firstV 3 (i.val : Nat) := by decide +kernel
      have e := key ⟨fg.toNat, by omega⟩
      rw [show ((fg.toNat : Nat) : Int) = fg by omega] at e
      rw [← e]
      unfold d17_First_v fbV
      cases (IntKind.u8.wrap (fg.tdiv 2)).tmod 2 == 1 <;> cases (IntKind.u8.wrap (fg.tdiv 1)).tmod 2 == 1 <;> cases (IntKind.u8.wrap (fg.tdiv 4)).tmod 2 == 1 <;> cases (IntKind.u8.wrap (fg.tdiv 16)).tmod 2 == 1 <;> rfl] at k
end Go.Proofs.YtilfcikhipadpaaGreatDoor
end

section
/- what a first packet may become: printed (gen/of.py). -/
set_option linter.unusedVariables false
namespace Go.Proofs.YtilfcikhipadpaaGreatDoor
open Go.RowKit Go.Lib Rx
theorem d_of1 {A : Amb} {rs : List Rule} {M : List (Nat × Blk)} {o ip b : Int} (hT : IsDoc o ip b rs M) (q si sp di dp ki fl ttl : Int) (ask : Bool) (k1 p1 sa1 sb1 da1 db1 e1 f1 t1 ia1 ip1 k2 p2 sa2 sb2 da2 db2 e2 f2 t2 ia2 ip2 k3 p3 sa3 sb3 da3 db3 e3 f3 t3 ia3 ip3 : Int) (b1 b2 b3 O go : Bool) (inn : Int → Bool) (st fl0 : Int) (c1 : ∀ n, 2 ≤ n → CallJ Tryz.prog A 50 [ptr 0, .int .u8 q, .agg #[.int .u32 di, .int .u16 dp]] M n (.tuple #[.agg #[.int .i64 k1, .int .u8 p1, .int .u32 sa1, .int .i64 sb1, .int .u32 da1, .int .i64 db1, .int .u32 e1, .int .u16 f1, .int .u16 t1, .int .u32 ia1, .int .u16 ip1], .bool b1]) M n) (c2 : ∀ n, 2 ≤ n → CallJ Tryz.prog A 52 [ptr 0, .int .u8 q, .agg #[.int .u32 si, .int .u16 sp]] M n (.tuple #[.agg #[.int .i64 k2, .int .u8 p2, .int .u32 sa2, .int .i64 sb2, .int .u32 da2, .int .i64 db2, .int .u32 e2, .int .u16 f2, .int .u16 t2, .int .u32 ia2, .int .u16 ip2], .bool b2]) M n) (c3 : ∀ n, 2 ≤ n → CallJ Tryz.prog A 53 [ptr 0, .agg #[.int .u8 q, .int .u32 si, .int .u16 sp, .int .u32 di, .int .u16 dp]] M n (.tuple #[.agg #[.int .i64 k3, .int .u8 p3, .int .u32 sa3, .int .i64 sb3, .int .u32 da3, .int .i64 db3, .int .u32 e3, .int .u16 f3, .int .u16 t3, .int .u32 ia3, .int .u16 ip3], .bool b3]) M n) (c4 : ∀ n, 2 ≤ n → CallJ Tryz.prog A 49 [ptr 0, .int .u32 si] M n (.bool (inn si)) M n) (c5 : ∀ n, 2 ≤ n → CallJ Tryz.prog A 49 [ptr 0, .int .u32 di] M n (.bool (inn di)) M n) (c6 : ∀ n, 2 ≤ n → CallJ Tryz.prog A 51 [ptr 0, .int .u32 di] M n (.bool O) M n) (hf : fl0 = flowV q) (c7 : ∀ W, A.S W → Calls Tryz.prog 54 #[.int .i64 fl0, .int .u8 fl] W (Ret (.tuple #[.int .i64 st, .bool go]) W)) : CallJ Tryz.prog A 16 [ptr 0, .agg #[.int .u8 q, .int .u32 si, .int .u16 sp, .int .u32 di, .int .u16 dp, .int .i64 ki, .int .u8 fl, .bool ask, .int .u8 ttl]] M 2 (oV 2 (ofR q si sp di dp ki inn b1 b2 b3 O go ask ia1 ip1 e2 f2 e3 f3 t3 st)) (oM 2 125 M (ofR q si sp di dp ki inn b1 b2 b3 O go ask ia1 ip1 e2 f2 e3 f3 t3 st)) (oN (ofR q si sp di dp ki inn b1 b2 b3 O go ask ia1 ip1 e2 f2 e3 f3 t3 st)) := by
  unfold ofR
  have hM := hT.two
  rcases hT with ⟨rfl, rfl⟩ | rfl
  all_goals
    cases hF : (inn si)
    · simp only [hF] at c4
      cases h1 : (ki == 3)
      · let p1 : List (Ev Tryz.prog A) := [no 6 h1, callsR 12 4 (c4 4 (by decide)), callsR 21 4 (c1 4 (by decide))]
        cases h2 : (b1)
        · exact fin hM 2 3 (con (p1 ++ [nisT 54 h2]))
        · let p2 : List (Ev Tryz.prog A) := p1 ++ [nisF 54 h2, callsR 74 5 (c2 5 (by decide)), callsR 84 6 (c3 6 (by decide))]
          cases h3 : (q == 1)
          · let p3 : List (Ev Tryz.prog A) := p2 ++ [isF 105 h3, does 114 (args := [.int .u8 q]) fun W h => hf ▸ d_Flow W q, does 117 (args := [.int .i64 fl0, .int .u8 fl]) c7]
            cases h4 : (go)
            · exact fin hM 2 5 (con (p3 ++ [nyes 125 h4]))
            · exact fin hM 9 8 (con (p3 ++ [nno 125 h4, yes 148 h2]))
          · let p4 : List (Ev Tryz.prog A) := p2 ++ [isT 105 h3]
            cases h5 : (ask)
            · exact fin hM 2 5 (con (p4 ++ []))
            · let p5 : List (Ev Tryz.prog A) := p4 ++ [does 114 (args := [.int .u8 q]) fun W h => hf ▸ d_Flow W q, does 117 (args := [.int .i64 fl0, .int .u8 fl]) c7]
              cases h6 : (go)
              · exact fin hM 2 5 (con (p5 ++ [nyes 125 h6]))
              · exact fin hM 9 8 (con (p5 ++ [nno 125 h6, yes 148 h2]))
      · exact fin hM 2 2 (con [yes 6 h1])
    · simp only [hF] at c4
      cases h7 : (ki == 3)
      · let p6 : List (Ev Tryz.prog A) := [no 6 h7, callsR 12 4 (c4 4 (by decide)), callsR 21 4 (c1 4 (by decide)), callsR 35 5 (c5 5 (by decide))]
        cases h8 : (inn di)
        · let p7 : List (Ev Tryz.prog A) := p6 ++ [isF 37 h8]
          cases h9 : (b1)
          · let p8 : List (Ev Tryz.prog A) := p7 ++ [isF 42 h9, nisT 54 h9, callsR 63 5 (c6 5 (by decide))]
            cases h10 : (O)
            · let p9 : List (Ev Tryz.prog A) := p8 ++ [no 66 h10, callsR 74 5 (c2 5 (by decide)), callsR 84 6 (c3 6 (by decide))]
              cases h11 : (b2)
              · let p10 : List (Ev Tryz.prog A) := p9 ++ [nisT 96 h11]
                cases h12 : (b3)
                · exact fin hM 2 5 (con (p10 ++ [nyes 100 h12]))
                · let p11 : List (Ev Tryz.prog A) := p10 ++ [nno 100 h12]
                  cases h13 : (q == 1)
                  · let p12 : List (Ev Tryz.prog A) := p11 ++ [isF 105 h13, does 114 (args := [.int .u8 q]) fun W h => hf ▸ d_Flow W q, does 117 (args := [.int .i64 fl0, .int .u8 fl]) c7]
                    cases h14 : (go)
                    · exact fin hM 2 5 (con (p12 ++ [nyes 125 h14]))
                    · exact fin hM 9 8 (con (p12 ++ [nno 125 h14, no 140 h11, nyes 146 h11, no 164 h9]))
                  · let p13 : List (Ev Tryz.prog A) := p11 ++ [isT 105 h13]
                    cases h15 : (ask)
                    · exact fin hM 2 5 (con (p13 ++ []))
                    · let p14 : List (Ev Tryz.prog A) := p13 ++ [does 114 (args := [.int .u8 q]) fun W h => hf ▸ d_Flow W q, does 117 (args := [.int .i64 fl0, .int .u8 fl]) c7]
                      cases h16 : (go)
                      · exact fin hM 2 5 (con (p14 ++ [nyes 125 h16]))
                      · exact fin hM 9 8 (con (p14 ++ [nno 125 h16, no 140 h11, nyes 146 h11, no 164 h9]))
              · let p15 : List (Ev Tryz.prog A) := p9 ++ [nisF 96 h11]
                cases h17 : (q == 1)
                · let p16 : List (Ev Tryz.prog A) := p15 ++ [isF 105 h17, does 114 (args := [.int .u8 q]) fun W h => hf ▸ d_Flow W q, does 117 (args := [.int .i64 fl0, .int .u8 fl]) c7]
                  cases h18 : (go)
                  · exact fin hM 2 5 (con (p16 ++ [nyes 125 h18]))
                  · exact fin hM 9 8 (con (p16 ++ [nno 125 h18, yes 140 h11, nno 161 h11, no 163 h9]))
                · let p17 : List (Ev Tryz.prog A) := p15 ++ [isT 105 h17]
                  cases h19 : (ask)
                  · exact fin hM 2 5 (con (p17 ++ []))
                  · let p18 : List (Ev Tryz.prog A) := p17 ++ [does 114 (args := [.int .u8 q]) fun W h => hf ▸ d_Flow W q, does 117 (args := [.int .i64 fl0, .int .u8 fl]) c7]
                    cases h20 : (go)
                    · exact fin hM 2 5 (con (p18 ++ [nyes 125 h20]))
                    · exact fin hM 9 8 (con (p18 ++ [nno 125 h20, yes 140 h11, nno 161 h11, no 163 h9]))
            · exact fin hM 2 3 (con (p8 ++ [yes 66 h10]))
          · let p19 : List (Ev Tryz.prog A) := p7 ++ [isT 42 h9]
            cases h21 : (ia1 == si && (ip1 == sp && true))
            · let p20 : List (Ev Tryz.prog A) := p19 ++ [no 51 h21, nisF 54 h9, callsR 74 5 (c2 5 (by decide)), callsR 84 6 (c3 6 (by decide))]
              cases h22 : (b2)
              · let p21 : List (Ev Tryz.prog A) := p20 ++ [nisT 96 h22]
                cases h23 : (b3)
                · exact fin hM 2 5 (con (p21 ++ [nyes 100 h23]))
                · let p22 : List (Ev Tryz.prog A) := p21 ++ [nno 100 h23]
                  cases h24 : (q == 1)
                  · let p23 : List (Ev Tryz.prog A) := p22 ++ [isF 105 h24, does 114 (args := [.int .u8 q]) fun W h => hf ▸ d_Flow W q, does 117 (args := [.int .i64 fl0, .int .u8 fl]) c7]
                    cases h25 : (go)
                    · exact fin hM 2 5 (con (p23 ++ [nyes 125 h25]))
                    · exact fin hM 11 10 (con (p23 ++ [nno 125 h25, no 140 h22, nyes 146 h22, yes 164 h9]))
                  · let p24 : List (Ev Tryz.prog A) := p22 ++ [isT 105 h24]
                    cases h26 : (ask)
                    · exact fin hM 2 5 (con (p24 ++ []))
                    · let p25 : List (Ev Tryz.prog A) := p24 ++ [does 114 (args := [.int .u8 q]) fun W h => hf ▸ d_Flow W q, does 117 (args := [.int .i64 fl0, .int .u8 fl]) c7]
                      cases h27 : (go)
                      · exact fin hM 2 5 (con (p25 ++ [nyes 125 h27]))
                      · exact fin hM 11 10 (con (p25 ++ [nno 125 h27, no 140 h22, nyes 146 h22, yes 164 h9]))
              · let p26 : List (Ev Tryz.prog A) := p20 ++ [nisF 96 h22]
                cases h28 : (q == 1)
                · let p27 : List (Ev Tryz.prog A) := p26 ++ [isF 105 h28, does 114 (args := [.int .u8 q]) fun W h => hf ▸ d_Flow W q, does 117 (args := [.int .i64 fl0, .int .u8 fl]) c7]
                  cases h29 : (go)
                  · exact fin hM 2 5 (con (p27 ++ [nyes 125 h29]))
                  · exact fin hM 11 10 (con (p27 ++ [nno 125 h29, yes 140 h22, nno 161 h22, yes 163 h9]))
                · let p28 : List (Ev Tryz.prog A) := p26 ++ [isT 105 h28]
                  cases h30 : (ask)
                  · exact fin hM 2 5 (con (p28 ++ []))
                  · let p29 : List (Ev Tryz.prog A) := p28 ++ [does 114 (args := [.int .u8 q]) fun W h => hf ▸ d_Flow W q, does 117 (args := [.int .i64 fl0, .int .u8 fl]) c7]
                    cases h31 : (go)
                    · exact fin hM 2 5 (con (p29 ++ [nyes 125 h31]))
                    · exact fin hM 11 10 (con (p29 ++ [nno 125 h31, yes 140 h22, nno 161 h22, yes 163 h9]))
            · exact fin hM 2 3 (con (p19 ++ [yes 51 h21]))
        · exact fin hM 2 3 (con (p6 ++ [isT 37 h8]))
      · exact fin hM 2 2 (con [yes 6 h7])
end Go.Proofs.YtilfcikhipadpaaGreatDoor
end

section
/- What a first packet may become, by a table; the program's and the document's. -/
set_option linter.unusedVariables false
namespace Go.Proofs.YtilfcikhipadpaaGreatDoor
open Go.RowKit Go.Lib Rx
/-- what is told of a packet by a table -/
def ofQ (o ip b : Int) (rs : List Rule) (q si sp di dp ki fl : Int) (ask : Bool) : Int × Pl :=
  ofR q si sp di dp ki (hasP ip b) (rs.any fun r => stB r q di dp) (rs.any fun r => owB r q si sp) (rs.any fun r => soB r q si di) (outB o rs di) (firstV (flowV q) fl) ask
    (lkR (fun r => stB r q di dp) rs).ia (lkR (fun r => stB r q di dp) rs).ip (lkR (fun r => owB r q si sp) rs).e (lkR (fun r => owB r q si sp) rs).f
    (woR o (lkR (fun r => soB r q si di) rs)).e (woR o (lkR (fun r => soB r q si di) rs)).f (woR o (lkR (fun r => soB r q si di) rs)).t (if firstV (flowV q) fl = true then 1 else 0)
variable {A : Amb} {rs : List Rule} {M : List (Nat × Blk)} {o ip b : Int}
theorem b_Of (h : IsTab o ip b rs M) (hn : rs.length ≤ 1000) (hok : ∀ r ∈ rs, r.Ok) (hip : 0 ≤ ip ∧ ip ≤ 4294967295) (q si sp di dp ki fl ttl : Int) (ask : Bool) (hs : 0 ≤ si ∧ si ≤ 4294967295) (hd : 0 ≤ di ∧ di ≤ 4294967295) (hL : ∀ W, A.S W → Lasts W) :
    CallJ Tryz.prog A 15 [ptr 0, .agg #[.int .u8 q, .int .u32 si, .int .u16 sp, .int .u32 di, .int .u16 dp, .int .i64 ki, .int .u8 fl, .bool ask, .int .u8 ttl]] M 2
      (oV 2 (ofQ o ip b rs q si sp di dp ki fl ask)) (oM 2 73 M (ofQ o ip b rs q si sp di dp ki fl ask)) (oN (ofQ o ip b rs q si sp di dp ki fl ask)) := by
  unfold ofQ
  obtain ⟨r1, h1⟩ : ∃ r, r = lkR (fun r => stB r q di dp) rs := ⟨_, rfl⟩
  obtain ⟨r2, h2⟩ : ∃ r, r = lkR (fun r => owB r q si sp) rs := ⟨_, rfl⟩
  obtain ⟨r3, h3⟩ : ∃ r, r = woR o (lkR (fun r => soB r q si di) rs) := ⟨_, rfl⟩
  have c1 := fun n (hn2 : 2 ≤ n) => static_u (A := A) h hn q di dp n hn2
  have c2 := fun n (hn2 : 2 ≤ n) => own_u (A := A) h hn q si sp n hn2
  have c3 := fun n (hn2 : 2 ≤ n) => source_u (A := A) h hn hok q si sp di dp hs hd n hn2
  rw [← h1] at c1 ⊢; rw [← h2] at c2 ⊢; rw [← h3] at c3 ⊢
  exact b_of1 h q si sp di dp ki fl ttl ask r1.k r1.p r1.sa r1.sb r1.da r1.db r1.e r1.f r1.t r1.ia r1.ip r2.k r2.p r2.sa r2.sb r2.da r2.db r2.e r2.f r2.t r2.ia r2.ip r3.k r3.p r3.sa r3.sb r3.da r3.db r3.e r3.f r3.t r3.ia r3.ip
    _ _ _ _ _ (hasP ip b) _ (flowV q) c1 c2 c3 (fun n hn2 => inner_u h hip si hs n hn2) (fun n hn2 => inner_u h hip di hd n hn2) (fun n hn2 => outer_u h hn di n hn2) rfl (fun W hW => tk_First W _ _ (hL W hW))
theorem d_Of (h : IsDoc o ip b rs M) (hn : rs.length ≤ 1000) (hok : ∀ r ∈ rs, r.Ok) (hip : 0 ≤ ip ∧ ip ≤ 4294967295) (q si sp di dp ki fl ttl : Int) (ask : Bool) (hs : 0 ≤ si ∧ si ≤ 4294967295) (hd : 0 ≤ di ∧ di ≤ 4294967295) (hf : 0 ≤ fl ∧ fl ≤ 255) :
    CallJ Tryz.prog A 16 [ptr 0, .agg #[.int .u8 q, .int .u32 si, .int .u16 sp, .int .u32 di, .int .u16 dp, .int .i64 ki, .int .u8 fl, .bool ask, .int .u8 ttl]] M 2
      (oV 2 (ofQ o ip b rs q si sp di dp ki fl ask)) (oM 2 125 M (ofQ o ip b rs q si sp di dp ki fl ask)) (oN (ofQ o ip b rs q si sp di dp ki fl ask)) := by
  unfold ofQ
  obtain ⟨r1, h1⟩ : ∃ r, r = lkR (fun r => stB r q di dp) rs := ⟨_, rfl⟩
  obtain ⟨r2, h2⟩ : ∃ r, r = lkR (fun r => owB r q si sp) rs := ⟨_, rfl⟩
  obtain ⟨r3, h3⟩ : ∃ r, r = woR o (lkR (fun r => soB r q si di) rs) := ⟨_, rfl⟩
  have c1 := fun n (hn2 : 2 ≤ n) => dstatic_u (A := A) h hn q di dp n hn2
  have c2 := fun n (hn2 : 2 ≤ n) => down_u (A := A) h hn q si sp n hn2
  have c3 := fun n (hn2 : 2 ≤ n) => dsource_u (A := A) h hn hok q si sp di dp hs hd n hn2
  rw [← h1] at c1 ⊢; rw [← h2] at c2 ⊢; rw [← h3] at c3 ⊢
  exact d_of1 h q si sp di dp ki fl ttl ask r1.k r1.p r1.sa r1.sb r1.da r1.db r1.e r1.f r1.t r1.ia r1.ip r2.k r2.p r2.sa r2.sb r2.da r2.db r2.e r2.f r2.t r2.ia r2.ip r3.k r3.p r3.sa r3.sb r3.da r3.db r3.e r3.f r3.t r3.ia r3.ip
    _ _ _ _ _ (hasP ip b) _ (flowV q) c1 c2 c3 (fun n hn2 => dinner_u h hip si hs n hn2) (fun n hn2 => dinner_u h hip di hd n hn2) (fun n hn2 => douter_u h hn di n hn2) rfl (fun W hW => d_First W _ _ (flowV_is q) hf)
end Go.Proofs.YtilfcikhipadpaaGreatDoor
end
