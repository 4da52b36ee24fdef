/- Several texts of this claim, one behind the other. -/
import Derived.Test.YtilfcikhipadpaaGreatDoorK11b
import Derived.KernelRfl

section
/- what a first packet may become: printed (gen/of.py). -/
set_option linter.unusedVariables false
namespace Go.Proofs.YtilfcikhipadpaaGreatDoor
open Go.RowKit Go.Lib Rx
theorem b_of1 {A : Amb} {rs : List Rule} {M : List (Nat × Blk)} {o ip b : Int} (hT : IsTab o ip b rs M) (q si sp di dp ki fl ttl : Int) (ask : Bool) (k1 p1 sa1 sb1 da1 db1 e1 f1 t1 ia1 ip1 k2 p2 sa2 sb2 da2 db2 e2 f2 t2 ia2 ip2 k3 p3 sa3 sb3 da3 db3 e3 f3 t3 ia3 ip3 : Int) (b1 b2 b3 O go : Bool) (inn : Int → Bool) (st fl0 : Int) (c1 : ∀ n, 2 ≤ n → CallJ Tryz.prog A 19 [ptr 0, .int .u8 q, .agg #[.int .u32 di, .int .u16 dp]] M n (.tuple #[.agg #[.int .i64 k1, .int .u8 p1, .int .u32 sa1, .int .i64 sb1, .int .u32 da1, .int .i64 db1, .int .u32 e1, .int .u16 f1, .int .u16 t1, .int .u32 ia1, .int .u16 ip1], .bool b1]) M n) (c2 : ∀ n, 2 ≤ n → CallJ Tryz.prog A 152 [ptr 0, .int .u8 q, .agg #[.int .u32 si, .int .u16 sp]] M n (.tuple #[.agg #[.int .i64 k2, .int .u8 p2, .int .u32 sa2, .int .i64 sb2, .int .u32 da2, .int .i64 db2, .int .u32 e2, .int .u16 f2, .int .u16 t2, .int .u32 ia2, .int .u16 ip2], .bool b2]) M n) (c3 : ∀ n, 2 ≤ n → CallJ Tryz.prog A 153 [ptr 0, .agg #[.int .u8 q, .int .u32 si, .int .u16 sp, .int .u32 di, .int .u16 dp]] M n (.tuple #[.agg #[.int .i64 k3, .int .u8 p3, .int .u32 sa3, .int .i64 sb3, .int .u32 da3, .int .i64 db3, .int .u32 e3, .int .u16 f3, .int .u16 t3, .int .u32 ia3, .int .u16 ip3], .bool b3]) M n) (c4 : ∀ n, 2 ≤ n → CallJ Tryz.prog A 20 [ptr 0, .int .u32 si] M n (.bool (inn si)) M n) (c5 : ∀ n, 2 ≤ n → CallJ Tryz.prog A 20 [ptr 0, .int .u32 di] M n (.bool (inn di)) M n) (c6 : ∀ n, 2 ≤ n → CallJ Tryz.prog A 21 [ptr 0, .int .u32 di] M n (.bool O) M n) (hf : fl0 = flowV q) (c7 : ∀ W, A.S W → Calls Tryz.prog 47 #[.int .i64 fl0, .int .u8 fl] W (Ret (.tuple #[.int .i64 st, .bool go]) W)) : CallJ Tryz.prog A 15 [ptr 0, .agg #[.int .u8 q, .int .u32 si, .int .u16 sp, .int .u32 di, .int .u16 dp, .int .i64 ki, .int .u8 fl, .bool ask, .int .u8 ttl]] M 2 (oV 2 (ofR q si sp di dp ki inn b1 b2 b3 O go ask ia1 ip1 e2 f2 e3 f3 t3 st)) (oM 2 73 M (ofR q si sp di dp ki inn b1 b2 b3 O go ask ia1 ip1 e2 f2 e3 f3 t3 st)) (oN (ofR q si sp di dp ki inn b1 b2 b3 O go ask ia1 ip1 e2 f2 e3 f3 t3 st)) := by
  unfold ofR
  have hM := hT.two
  rcases hT with ⟨rfl, rfl⟩ | rfl
  all_goals
    cases h1 : (ki == 3)
    · let p1 : List (Ev Tryz.prog A) := [no 6 h1, callsR 24 7 (c1 7 (by decide)), callsR 35 8 (c4 8 (by decide))]
      cases h2 : (inn si)
      · let p2 : List (Ev Tryz.prog A) := p1 ++ [isF 38 h2]
        cases h3 : (b1)
        · exact fin hM 2 7 (con (p2 ++ [nisT 59 h3, nisT 62 h2]))
        · let p3 : List (Ev Tryz.prog A) := p2 ++ [nisF 59 h3, no 73 h2, yes 75 h3]
          cases h4 : (q == 1)
          · let p4 : List (Ev Tryz.prog A) := p3 ++ [isF 108 h4, does 117 (args := [.int .u8 q]) fun W h => hf ▸ tk_Flow W q, does 120 (args := [.int .i64 fl0, .int .u8 fl]) c7]
            cases h5 : (go)
            · exact fin hM 2 9 (con (p4 ++ [nyes 128 h5]))
            · exact fin hM 9 9 (con (p4 ++ [nno 128 h5]))
          · let p5 : List (Ev Tryz.prog A) := p3 ++ [isT 108 h4]
            cases h6 : (ask)
            · exact fin hM 2 9 (con (p5 ++ []))
            · let p6 : List (Ev Tryz.prog A) := p5 ++ [does 117 (args := [.int .u8 q]) fun W h => hf ▸ tk_Flow W q, does 120 (args := [.int .i64 fl0, .int .u8 fl]) c7]
              cases h7 : (go)
              · exact fin hM 2 9 (con (p6 ++ [nyes 128 h7]))
              · exact fin hM 9 9 (con (p6 ++ [nno 128 h7]))
      · let p7 : List (Ev Tryz.prog A) := p1 ++ [isT 38 h2, callsR 43 8 (c5 8 (by decide))]
        cases h8 : (inn di)
        · let p8 : List (Ev Tryz.prog A) := p7 ++ [isF 44 h8]
          cases h9 : (b1)
          · let p9 : List (Ev Tryz.prog A) := p8 ++ [isF 46 h9, nisT 59 h9, nisF 62 h2, callsR 67 8 (c6 8 (by decide))]
            cases h10 : (O)
            · let p10 : List (Ev Tryz.prog A) := p9 ++ [no 71 h10, yes 73 h2, callsR 84 10 (c2 10 (by decide))]
              cases h11 : (b2)
              · let p11 : List (Ev Tryz.prog A) := p10 ++ [no 92 h11, callsR 95 11 (c3 11 (by decide))]
                cases h12 : (b3)
                · exact fin hM 2 12 (con (p11 ++ [nyes 104 h12]))
                · let p12 : List (Ev Tryz.prog A) := p11 ++ [nno 104 h12, no 136 h9]
                  cases h13 : (q == 1)
                  · let p13 : List (Ev Tryz.prog A) := p12 ++ [isF 154 h13, does 163 (args := [.int .u8 q]) fun W h => hf ▸ tk_Flow W q, does 166 (args := [.int .i64 fl0, .int .u8 fl]) c7]
                    cases h14 : (go)
                    · exact fin hM 2 14 (con (p13 ++ [nyes 174 h14]))
                    · exact fin hM 14 14 (con (p13 ++ [nno 174 h14]))
                  · let p14 : List (Ev Tryz.prog A) := p12 ++ [isT 154 h13]
                    cases h15 : (ask)
                    · exact fin hM 2 14 (con (p14 ++ []))
                    · let p15 : List (Ev Tryz.prog A) := p14 ++ [does 163 (args := [.int .u8 q]) fun W h => hf ▸ tk_Flow W q, does 166 (args := [.int .i64 fl0, .int .u8 fl]) c7]
                      cases h16 : (go)
                      · exact fin hM 2 14 (con (p15 ++ [nyes 174 h16]))
                      · exact fin hM 14 14 (con (p15 ++ [nno 174 h16]))
              · let p16 : List (Ev Tryz.prog A) := p10 ++ [yes 92 h11, no 123 h9]
                cases h17 : (q == 1)
                · let p17 : List (Ev Tryz.prog A) := p16 ++ [isF 141 h17, does 150 (args := [.int .u8 q]) fun W h => hf ▸ tk_Flow W q, does 153 (args := [.int .i64 fl0, .int .u8 fl]) c7]
                  cases h18 : (go)
                  · exact fin hM 2 13 (con (p17 ++ [nyes 161 h18]))
                  · exact fin hM 13 13 (con (p17 ++ [nno 161 h18]))
                · let p18 : List (Ev Tryz.prog A) := p16 ++ [isT 141 h17]
                  cases h19 : (ask)
                  · exact fin hM 2 13 (con (p18 ++ []))
                  · let p19 : List (Ev Tryz.prog A) := p18 ++ [does 150 (args := [.int .u8 q]) fun W h => hf ▸ tk_Flow W q, does 153 (args := [.int .i64 fl0, .int .u8 fl]) c7]
                    cases h20 : (go)
                    · exact fin hM 2 13 (con (p19 ++ [nyes 161 h20]))
                    · exact fin hM 13 13 (con (p19 ++ [nno 161 h20]))
            · exact fin hM 2 7 (con (p9 ++ [yes 71 h10]))
          · let p20 : List (Ev Tryz.prog A) := p8 ++ [isT 46 h9]
            cases h21 : (ia1 == si && (ip1 == sp && true))
            · let p21 : List (Ev Tryz.prog A) := p20 ++ [no 56 h21, nisF 59 h9, yes 73 h2, callsR 84 10 (c2 10 (by decide))]
              cases h22 : (b2)
              · let p22 : List (Ev Tryz.prog A) := p21 ++ [no 92 h22, callsR 95 11 (c3 11 (by decide))]
                cases h23 : (b3)
                · exact fin hM 2 12 (con (p22 ++ [nyes 104 h23]))
                · let p23 : List (Ev Tryz.prog A) := p22 ++ [nno 104 h23, yes 136 h9]
                  cases h24 : (q == 1)
                  · let p24 : List (Ev Tryz.prog A) := p23 ++ [isF 169 h24, does 178 (args := [.int .u8 q]) fun W h => hf ▸ tk_Flow W q, does 181 (args := [.int .i64 fl0, .int .u8 fl]) c7]
                    cases h25 : (go)
                    · exact fin hM 2 16 (con (p24 ++ [nyes 189 h25]))
                    · exact fin hM 16 16 (con (p24 ++ [nno 189 h25]))
                  · let p25 : List (Ev Tryz.prog A) := p23 ++ [isT 169 h24]
                    cases h26 : (ask)
                    · exact fin hM 2 16 (con (p25 ++ []))
                    · let p26 : List (Ev Tryz.prog A) := p25 ++ [does 178 (args := [.int .u8 q]) fun W h => hf ▸ tk_Flow W q, does 181 (args := [.int .i64 fl0, .int .u8 fl]) c7]
                      cases h27 : (go)
                      · exact fin hM 2 16 (con (p26 ++ [nyes 189 h27]))
                      · exact fin hM 16 16 (con (p26 ++ [nno 189 h27]))
              · let p27 : List (Ev Tryz.prog A) := p21 ++ [yes 92 h22, yes 123 h9]
                cases h28 : (q == 1)
                · let p28 : List (Ev Tryz.prog A) := p27 ++ [isF 156 h28, does 165 (args := [.int .u8 q]) fun W h => hf ▸ tk_Flow W q, does 168 (args := [.int .i64 fl0, .int .u8 fl]) c7]
                  cases h29 : (go)
                  · exact fin hM 2 15 (con (p28 ++ [nyes 176 h29]))
                  · exact fin hM 15 15 (con (p28 ++ [nno 176 h29]))
                · let p29 : List (Ev Tryz.prog A) := p27 ++ [isT 156 h28]
                  cases h30 : (ask)
                  · exact fin hM 2 15 (con (p29 ++ []))
                  · let p30 : List (Ev Tryz.prog A) := p29 ++ [does 165 (args := [.int .u8 q]) fun W h => hf ▸ tk_Flow W q, does 168 (args := [.int .i64 fl0, .int .u8 fl]) c7]
                    cases h31 : (go)
                    · exact fin hM 2 15 (con (p30 ++ [nyes 176 h31]))
                    · exact fin hM 15 15 (con (p30 ++ [nno 176 h31]))
            · exact fin hM 2 7 (con (p20 ++ [yes 56 h21]))
        · exact fin hM 2 7 (con (p7 ++ [isT 44 h8]))
    · exact fin hM 2 2 (con [yes 6 h1])
end Go.Proofs.YtilfcikhipadpaaGreatDoor
end

section
/- the document's track: Flow, First: printed (gen/d17.spec.py); what they come to. -/
set_option linter.unusedVariables false
namespace Go.Proofs.YtilfcikhipadpaaGreatDoor
open Go.RowKit Go.Lib Rx
end Go.Proofs.YtilfcikhipadpaaGreatDoor
end

section
/- what a first packet may become: printed (gen/of.py). -/
set_option linter.unusedVariables false
namespace Go.Proofs.YtilfcikhipadpaaGreatDoor
open Go.RowKit Go.Lib Rx
end Go.Proofs.YtilfcikhipadpaaGreatDoor
end

section
/- What a first packet may become, by a table; the program's and the document's. -/
set_option linter.unusedVariables false
namespace Go.Proofs.YtilfcikhipadpaaGreatDoor
open Go.RowKit Go.Lib Rx
/-- what is told of a packet by a table -/
def ofQ (o ip b : Int) (rs : List Rule) (q si sp di dp ki fl : Int) (ask : Bool) : Int × Pl :=
  ofR q si sp di dp ki (hasP ip b) (rs.any fun r => stB r q di dp) (rs.any fun r => owB r q si sp) (rs.any fun r => soB r q si di) (outB o rs di) (firstV (flowV q) fl) ask
    (lkR (fun r => stB r q di dp) rs).ia (lkR (fun r => stB r q di dp) rs).ip (lkR (fun r => owB r q si sp) rs).e (lkR (fun r => owB r q si sp) rs).f
    (woR o (lkR (fun r => soB r q si di) rs)).e (woR o (lkR (fun r => soB r q si di) rs)).f (woR o (lkR (fun r => soB r q si di) rs)).t (if firstV (flowV q) fl = true then 1 else 0)
variable {A : Amb} {rs : List Rule} {M : List (Nat × Blk)} {o ip b : Int}
theorem b_Of (h : IsTab o ip b rs M) (hn : rs.length ≤ 1000) (hok : ∀ r ∈ rs, r.Ok) (hip : 0 ≤ ip ∧ ip ≤ 4294967295) (q si sp di dp ki fl ttl : Int) (ask : Bool) (hs : 0 ≤ si ∧ si ≤ 4294967295) (hd : 0 ≤ di ∧ di ≤ 4294967295) (hL : ∀ W, A.S W → Lasts W) :
    CallJ Tryz.prog A 15 [ptr 0, .agg #[.int .u8 q, .int .u32 si, .int .u16 sp, .int .u32 di, .int .u16 dp, .int .i64 ki, .int .u8 fl, .bool ask, .int .u8 ttl]] M 2
      (oV 2 (ofQ o ip b rs q si sp di dp ki fl ask)) (oM 2 73 M (ofQ o ip b rs q si sp di dp ki fl ask)) (oN (ofQ o ip b rs q si sp di dp ki fl ask)) := by
  unfold ofQ
  obtain ⟨r1, h1⟩ : ∃ r, r = lkR (fun r => stB r q di dp) rs := ⟨_, rfl⟩
  obtain ⟨r2, h2⟩ : ∃ r, r = lkR (fun r => owB r q si sp) rs := ⟨_, rfl⟩
  obtain ⟨r3, h3⟩ : ∃ r, r = woR o (lkR (fun r => soB r q si di) rs) := ⟨_, rfl⟩
  have c1 := fun n (hn2 : 2 ≤ n) => static_u (A := A) h hn q di dp n hn2
  have c2 := fun n (hn2 : 2 ≤ n) => own_u (A := A) h hn q si sp n hn2
  have c3 := fun n (hn2 : 2 ≤ n) => source_u (A := A) h hn hok q si sp di dp hs hd n hn2
  rw [← h1] at c1 ⊢; rw [← h2] at c2 ⊢; rw [← h3] at c3 ⊢
  exact b_of1 h q si sp di dp ki fl ttl ask r1.k r1.p r1.sa r1.sb r1.da r1.db r1.e r1.f r1.t r1.ia r1.ip r2.k r2.p r2.sa r2.sb r2.da r2.db r2.e r2.f r2.t r2.ia r2.ip r3.k r3.p r3.sa r3.sb r3.da r3.db r3.e r3.f r3.t r3.ia r3.ip
    _ _ _ _ _ (hasP ip b) _ (flowV q) c1 c2 c3 (fun n hn2 => inner_u h hip si hs n hn2) (fun n hn2 => inner_u h hip di hd n hn2) (fun n hn2 => outer_u h hn di n hn2) rfl (fun W hW => tk_First W _ _ (hL W hW))
end Go.Proofs.YtilfcikhipadpaaGreatDoor
end
