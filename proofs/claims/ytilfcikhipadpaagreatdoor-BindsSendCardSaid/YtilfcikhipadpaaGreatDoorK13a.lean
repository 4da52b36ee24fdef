/- Several texts of this claim, one behind the other. -/
import Derived.Test.YtilfcikhipadpaaGreatDoorK12a
import Derived.KernelRfl
import Derived.Test.YtilfcikhipadpaaGreatDoorProg
import Derived.Lib.Strings
import Derived.Lib.Slices
import Derived.Lib.Walk
import Derived.Lib.Builder
import Derived.Lib.AppendStr
import Derived.Lib.UnsafeStr
import Derived.Lib.MakeNoZero
import Derived.WalkKit
import Derived.Laws.Externs
import Derived.Laws.IdiomCopy
import Derived.Laws.BitsLemmas

section
/- the document's rules: Add, by the executor. -/
set_option linter.unusedVariables false
set_option linter.unusedSimpArgs false
namespace Go.Proofs.YtilfcikhipadpaaGreatDoor
open Go.RowKit Go.Lib Rx
variable {A : Amb} {rs : List Rule} {o ip b : Int}
theorem dadd_clash (r : Rule) (hip : 0 ≤ ip ∧ ip ≤ 4294967295) (hr : r.Ok) (hc : mayR ip b r = true) (hl : ¬ 32 ≤ rs.length) (hx : (rs.any fun x => dcq o x r) = true) : CallJ Tryz.prog A 45 [ptr 0, .int .i64 (rs.length : Int), .agg (ruL r).toArray] (daM o ip b rs) 2 (.int .i64 11) (daM o ip b rs) 2 := by
  have k := dmy_J (A := A) o ip b (.slice (some ⟨1, 0, some 0⟩) rs.length 0) r hip hr 3
  rw [hc] at k
  rcases find_cases (fun x => dcq o x r) rs with ⟨j, hj, q1, q2, _, _⟩ | ⟨_, _, q3⟩
  · exact (con (nx' := 3) [calls 4 3 0 k, isF 10 (b := decide ((rs.length : Int) < 0)) (by simp), no 19 (b := decide ((rs.length : Int) > rs.length)) (by simp), no 26 (b := decide ((rs.length : Int) > 31)) (by simp; omega),
      loops 28 3 0 (loopJ (dc_V o ip b r rs) (fun _ => dc_M o ip b r rs) j (fun i hi => dc_on o ip b r i (by omega) (by omega) (q1 i hi)) (d := 0) (dc_hit o ip b r j hj (by omega) q2))]).drop (h2 := daM_in o ip b rs) (h4 := daM_in o ip b rs)
  · rw [q3] at hx; cases hx
theorem dadd_yes (r : Rule) (hip : 0 ≤ ip ∧ ip ≤ 4294967295) (hr : r.Ok) (hc : mayR ip b r = true) (hl : ¬ 32 ≤ rs.length) (h0 : rs ≠ []) (hx : (rs.any fun x => dcq o x r) = false) : CallJ Tryz.prog A 45 [ptr 0, .int .i64 (rs.length : Int), .agg (ruL r).toArray] (daM o ip b rs) 2 (.int .i64 0) [(0, daB o ip b (.slice (some ⟨2, 0, some 0⟩) (rs ++ [r]).length 0)), (2, ruB (rs ++ [r]))] 3 := by
  have k := dmy_J (A := A) o ip b (.slice (some ⟨1, 0, some 0⟩) rs.length 0) r hip hr 3
  rw [hc] at k
  rcases find_cases (fun x => dcq o x r) rs with ⟨j, hj, q1, q2, _, q3⟩ | ⟨q1, _, _⟩
  · rw [q3] at hx; cases hx
  have hL : (rs.flatMap ruL).length = rs.length * 11 := flat_len ruL_len rs
  have hz : rs.length ≠ 0 := fun e => h0 (List.length_eq_zero_iff.1 e)
  have hs : (rs.flatMap ruL).all scal = true := all_flat (fun _ => rfl) rs
  have hL2 : (rs.flatMap ruL ++ ruL r).length = (rs.length + 1) * 11 := by rw [List.length_append, hL, ruL_len]; omega
  have h := con (A := A) (P := Tryz.prog) (f := 45) (args := [ptr 0, .int .i64 (rs.length : Int), .agg (ruL r).toArray]) (sn := daM o ip b rs) (nx := 2) (v := .int .i64 0) (out := [(0, daB o ip b (.slice (some ⟨6, 0, some 0⟩) (rs.length + 1) 0)), (6, (rs.flatMap ruL ++ ruL r, 68, true))]) (nx' := 7)
    [calls 4 3 0 k, isF 10 (b := decide ((rs.length : Int) < 0)) (by simp), no 19 (b := decide ((rs.length : Int) > rs.length)) (by simp), no 26 (b := decide ((rs.length : Int) > 31)) (by simp; omega),
      loops 28 3 0 (loopJ (dc_V o ip b r rs) (fun _ => dc_M o ip b r rs) rs.length (fun i hi => dc_on o ip b r i hi (by omega) (q1 _ (List.getElem_mem hi))) (d := 0) (dc_end r)),
      slH 34 3 (T := 115) (ty := 115) (e := 68) (s := 11) (id := 1) (k := rs.length) hL,
      apN 35 3 (sT := 115) (xT := 115) (ty := 115) (e := 68) (e3 := 68) (s := 11) (j := 1) (k := rs.length) (c2 := 0) (q2 := 0) (e2 := 68) (r2 := true) (new := rs.flatMap ruL) hL hs ⟨by omega, by omega⟩,
      ap 38 5 (sT := 115) (xT := 115) (ty := 115) (e := 68) (e3 := 68) (s := 11) (id := 3) (j := 4) (m := rs.length) (k := 1) (q2 := 1) (c2 := 1) (e2 := 68) (r2 := true) (new := ruL r) hL rfl rfl ⟨by omega, by omega⟩ (by omega),
      slE1 44 6 (T := 115) (ty := 115) (e := 68) (s := 11) (id := 1) (k := rs.length) hL hz,
      ap0 45 6 (sT := 115) (xT := 115) (ty := 115) (e := 68) (e3 := 68) (s := 11) (id := 5) (j := 1) (m := rs.length + 1) (off := rs.length * 11) (c2 := rs.length) (bj := ruB rs) hL2 (by omega)]
  have hn : rs.length + 1 = (rs ++ [r]).length := by simp
  rw [flat_snoc, hn] at h
  have := h.re (d := 5) [6] (h4 := by
    simp only [liveB, List.all_cons, List.all_nil, all_flat (p := in0 (live [6] 2)) (f := ruL) (fun _ => rfl)]
    rfl) (h2 := daM_in o ip b rs)
  refine this.eq rfl ?_
  simp only [List.map_cons, List.map_nil, idB, flat_id (f := ruL) (fun _ => rfl)]
  rfl
theorem dadd0_no (r : Rule) (hip : 0 ≤ ip ∧ ip ≤ 4294967295) (hr : r.Ok) (hc : mayR ip b r = false) : CallJ Tryz.prog A 45 [ptr 0, .int .i64 0, .agg (ruL r).toArray] (dnM o ip b) 2 (.int .i64 2) (dnM o ip b) 2 := by
  have k := dmy_J (A := A) o ip b (.slice none 0 0) r hip hr 3
  rw [hc] at k
  exact (con (nx' := 3) [calls 4 3 0 k]).drop
end Go.Proofs.YtilfcikhipadpaaGreatDoor
end

section
/- All ways: printed (gen/mk.py, gen/sd.spec.py). -/
set_option linter.unusedVariables false
set_option linter.unusedSimpArgs false
namespace Go.Proofs.YtilfcikhipadpaaGreatDoor
open Go.RowKit Go.Lib Rx
/-- four numbers of endpoints -/
def R4 (a b c d : Int) : Prop := (0 ≤ a ∧ a ≤ 4294967295) ∧ (0 ≤ b ∧ b ≤ 65535) ∧ (0 ≤ c ∧ c ≤ 4294967295) ∧ (0 ≤ d ∧ d ≤ 65535)
@[reducible] def hdB (hs : List Hol) : Blk := (hs.flatMap hoL, 146, true)
/-- the document's table, and holds behind it -/
def DocAt (o ip b : Int) (rs : List Rule) (hs : List Hol) (M E : List (Nat × Blk)) (HV : Value) : Prop := (HV = .slice none 0 0 ∧ E = [] ∧ IsDoc o ip b rs M) ∨ (HV = .slice (some ⟨1, 0, some 0⟩) hs.length 0 ∧ E = [(1, hdB hs)] ∧ M = dnM o ip b) ∨ (HV = .slice (some ⟨2, 0, some 0⟩) hs.length 0 ∧ E = [(2, hdB hs)] ∧ M = daM o ip b rs)
theorem DocAt.in_ {o ip b : Int} {rs : List Rule} {M E : List (Nat × Blk)} {HV : Value} {hs : List Hol} (hH : DocAt o ip b rs hs M E HV) : inBlks 3 (M ++ E) = true := by
  rcases hH with ⟨rfl, rfl, ⟨_, rfl⟩ | rfl⟩ | ⟨rfl, rfl, rfl⟩ | ⟨rfl, rfl, rfl⟩
  · rfl
  · simp only [inBlks, daM, List.append_nil, List.all_cons, List.all_nil, all_flat (p := inC 3) (f := ruL) (fun _ => rfl)]
    rfl
  · simp only [inBlks, dnM, List.cons_append, List.nil_append, List.all_cons, List.all_nil, all_flat (p := inC 3) (f := hoL) (fun _ => rfl)]
    rfl
  · simp only [inBlks, daM, List.cons_append, List.nil_append, List.all_cons, List.all_nil, all_flat (p := inC 3) (f := ruL) (fun _ => rfl), all_flat (p := inC 3) (f := hoL) (fun _ => rfl)]
    rfl
def sdV (ro : Int → Int → Int → Int → ByteArray) (tr : Int → Int → Int → Int → Int → Int → Int → Int → ByteArray) (inn : Int → Bool) (sa sk kp ka kb kc kd e op oa ob oc od rp ra rb rc rd rw tw : Int) : Value := (bif (e != 0) then (.tuple #[.string { data := #[] }, .int .i64 e]) else (bif (kp == op && (ka == oa && (kb == ob && true) && (kc == oc && (kd == od && true) && true))) then (bif (sk != 3) then (.tuple #[.string (ro rc rd ra rb), .int .i64 rw]) else (bif (inn sa) then (.tuple #[.string (tr rc 0 ra 0 ra rb rc rd), .int .i64 tw]) else (bif (sa == ka) then (.tuple #[.string (tr rc 0 ra 0 ra rb rc rd), .int .i64 tw]) else (.tuple #[.string (tr sa 0 ra 0 ra rb rc rd), .int .i64 tw])))) else (bif (kp == rp && (ka == ra && (kb == rb && true) && (kc == rc && (kd == rd && true) && true))) then (bif (sk != 3) then (.tuple #[.string (ro oc od oa ob), .int .i64 rw]) else (bif (inn sa) then (.tuple #[.string (tr oc 0 oa 0 oa ob oc od), .int .i64 tw]) else (bif (sa == ka) then (.tuple #[.string (tr oc 0 oa 0 oa ob oc od), .int .i64 tw]) else (.tuple #[.string (tr sa 0 oa 0 oa ob oc od), .int .i64 tw])))) else (.tuple #[.string { data := #[] }, .int .i64 10]))))
theorem b_sd {A : Amb} {o ip b : Int} {rs : List Rule} {M : List (Nat × Blk)} (hT : IsTab o ip b rs M) {X : Option Addr} (n c : Nat) (hX : RealA X) (s : ByteArray) (ro : Int → Int → Int → Int → ByteArray) (tr : Int → Int → Int → Int → Int → Int → Int → Int → ByteArray) (inn : Int → Bool) (sa sk kp ka kb kc kd e op oa ob oc od rp ra rb rc rd rw tw : Int) (sp sb sc sd sf sl st dl : Int) (sq : Bool) (hx : 0 ≤ sa ∧ sa ≤ 4294967295) (ho : R4 oa ob oc od) (hr : R4 ra rb rc rd) (c1 : ∀ W, A.S W → Calls Tryz.prog 11 #[.string s] W (Ret (.tuple #[.agg #[.int .u8 sp, .int .u32 sa, .int .u16 sb, .int .u32 sc, .int .u16 sd, .int .i64 sk, .int .u8 sf, .bool sq, .int .u8 sl, .int .u8 kp, .int .u32 ka, .int .u16 kb, .int .u32 kc, .int .u16 kd], .int .i64 e]) W)) (c2 : ∀ n, 2 ≤ n → CallJ Tryz.prog A 20 [ptr 0, .int .u32 sa] M n (.bool (inn sa)) M n) (c3 : ∀ {a b c d : Int}, R4 a b c d → ∀ W, A.S W → Calls Tryz.prog 65 #[.string s, .agg #[.int .u32 c, .int .u16 d, .int .u32 a, .int .u16 b]] W (Ret (.tuple #[.string (ro c d a b), .int .i64 rw]) W)) (c4 : ∀ {z a b c d : Int}, (0 ≤ z ∧ z ≤ 4294967295) → R4 a b c d → ∀ W, A.S W → Calls Tryz.prog 66 #[.string s, .agg #[.int .u32 z, .int .u16 0, .int .u32 a, .int .u16 0], .agg #[.int .u32 a, .int .u16 b, .int .u32 c, .int .u16 d]] W (Ret (.tuple #[.string (tr z 0 a 0 a b c d), .int .i64 tw]) W)) : CallJ Tryz.prog A 22 [ptr 0, .string s, .agg #[.int .u8 op, .int .u32 oa, .int .u16 ob, .int .u32 oc, .int .u16 od, .int .u8 rp, .int .u32 ra, .int .u16 rb, .int .u32 rc, .int .u16 rd, .int .i64 st, .int .i64 dl, (.slice X n c)]] M 2 (sdV ro tr inn sa sk kp ka kb kc kd e op oa ob oc od rp ra rb rc rd rw tw) M 2 := by
  unfold sdV
  have hM := hT.in_
  rcases hX with rfl | ⟨g, of, rfl⟩
  all_goals
    rcases hT with ⟨rfl, rfl⟩ | rfl
    all_goals
      let p1 : List (Ev Tryz.prog A) := [does 4 (args := [.string s]) c1]
      cases h1 : (e != 0)
      · let p2 : List (Ev Tryz.prog A) := p1 ++ [no 13 h1]
        cases h2 : (kp == op && (ka == oa && (kb == ob && true) && (kc == oc && (kd == od && true) && true)))
        · let p3 : List (Ev Tryz.prog A) := p2 ++ [no 26 h2]
          cases h3 : (kp == rp && (ka == ra && (kb == rb && true) && (kc == rc && (kd == rd && true) && true)))
          · exact (con (nx' := 6) (p3 ++ [no 31 h3])).drop (h2 := hM) (h4 := hM)
          · let p4 : List (Ev Tryz.prog A) := p3 ++ [yes 31 h3]
            cases h4 : (sk != 3)
            · let p5 : List (Ev Tryz.prog A) := p4 ++ [no 72 h4, callsR 92 13 (c2 13 (by decide))]
              cases h5 : (inn sa)
              · let p6 : List (Ev Tryz.prog A) := p5 ++ [isF 93 h5]
                cases h6 : (sa == ka)
                · exact (con (nx' := 18) (p6 ++ [no 105 h6, does 131 (args := [.string s, .agg #[.int .u32 sa, .int .u16 0, .int .u32 oa, .int .u16 0], .agg #[.int .u32 oa, .int .u16 ob, .int .u32 oc, .int .u16 od]]) (c4 hx ho)])).drop (h2 := hM) (h4 := hM)
                · exact (con (nx' := 18) (p6 ++ [yes 105 h6, does 137 (args := [.string s, .agg #[.int .u32 oc, .int .u16 0, .int .u32 oa, .int .u16 0], .agg #[.int .u32 oa, .int .u16 ob, .int .u32 oc, .int .u16 od]]) (c4 ho.2.2.1 ho)])).drop (h2 := hM) (h4 := hM)
              · exact (con (nx' := 18) (p5 ++ [isT 93 h5, does 137 (args := [.string s, .agg #[.int .u32 oc, .int .u16 0, .int .u32 oa, .int .u16 0], .agg #[.int .u32 oa, .int .u16 ob, .int .u32 oc, .int .u16 od]]) (c4 ho.2.2.1 ho)])).drop (h2 := hM) (h4 := hM)
            · exact (con (nx' := 12) (p4 ++ [yes 72 h4, does 75 (args := [.string s, .agg #[.int .u32 oc, .int .u16 od, .int .u32 oa, .int .u16 ob]]) (c3 ho)])).drop (h2 := hM) (h4 := hM)
        · let p7 : List (Ev Tryz.prog A) := p2 ++ [yes 26 h2]
          cases h7 : (sk != 3)
          · let p8 : List (Ev Tryz.prog A) := p7 ++ [no 67 h7, callsR 87 13 (c2 13 (by decide))]
            cases h8 : (inn sa)
            · let p9 : List (Ev Tryz.prog A) := p8 ++ [isF 88 h8]
              cases h9 : (sa == ka)
              · exact (con (nx' := 18) (p9 ++ [no 100 h9, does 126 (args := [.string s, .agg #[.int .u32 sa, .int .u16 0, .int .u32 ra, .int .u16 0], .agg #[.int .u32 ra, .int .u16 rb, .int .u32 rc, .int .u16 rd]]) (c4 hx hr)])).drop (h2 := hM) (h4 := hM)
              · exact (con (nx' := 18) (p9 ++ [yes 100 h9, does 132 (args := [.string s, .agg #[.int .u32 rc, .int .u16 0, .int .u32 ra, .int .u16 0], .agg #[.int .u32 ra, .int .u16 rb, .int .u32 rc, .int .u16 rd]]) (c4 hr.2.2.1 hr)])).drop (h2 := hM) (h4 := hM)
            · exact (con (nx' := 18) (p8 ++ [isT 88 h8, does 132 (args := [.string s, .agg #[.int .u32 rc, .int .u16 0, .int .u32 ra, .int .u16 0], .agg #[.int .u32 ra, .int .u16 rb, .int .u32 rc, .int .u16 rd]]) (c4 hr.2.2.1 hr)])).drop (h2 := hM) (h4 := hM)
          · exact (con (nx' := 12) (p7 ++ [yes 67 h7, does 70 (args := [.string s, .agg #[.int .u32 rc, .int .u16 rd, .int .u32 ra, .int .u16 rb]]) (c3 hr)])).drop (h2 := hM) (h4 := hM)
      · exact (con (nx' := 4) (p1 ++ [yes 13 h1])).drop (h2 := hM) (h4 := hM)
theorem d_sd {A : Amb} {o ip b : Int} {rs : List Rule} {M : List (Nat × Blk)}  {HV : Value} {E : List (Nat × Blk)} {hs : List Hol} (hH : DocAt o ip b rs hs M E HV) (s : ByteArray) (ro : Int → Int → Int → Int → ByteArray) (tr : Int → Int → Int → Int → Int → Int → Int → Int → ByteArray) (inn : Int → Bool) (sa sk kp ka kb kc kd e op oa ob oc od rp ra rb rc rd rw tw : Int) (sp sb sc sd sf sl st dl : Int) (sq : Bool) (hx : 0 ≤ sa ∧ sa ≤ 4294967295) (ho : R4 oa ob oc od) (hr : R4 ra rb rc rd) (c1 : ∀ W, A.S W → Calls Tryz.prog 12 #[.string s] W (Ret (.tuple #[.agg #[.int .u8 sp, .int .u32 sa, .int .u16 sb, .int .u32 sc, .int .u16 sd, .int .i64 sk, .int .u8 sf, .bool sq, .int .u8 sl, .int .u8 kp, .int .u32 ka, .int .u16 kb, .int .u32 kc, .int .u16 kd], .int .i64 e]) W)) (c2 : ∀ n, 2 ≤ n → CallJ Tryz.prog A 49 [ptr 0, .int .u32 sa] M n (.bool (inn sa)) M n) (c3 : ∀ {a b c d : Int}, R4 a b c d → ∀ W, A.S W → Calls Tryz.prog 70 #[.string s, .agg #[.int .u32 c, .int .u16 d, .int .u32 a, .int .u16 b]] W (Ret (.tuple #[.string (ro c d a b), .int .i64 rw]) W)) (c4 : ∀ {z a b c d : Int}, (0 ≤ z ∧ z ≤ 4294967295) → R4 a b c d → ∀ W, A.S W → Calls Tryz.prog 71 #[.string s, .agg #[.int .u32 z, .int .u16 0, .int .u32 a, .int .u16 0], .agg #[.int .u32 a, .int .u16 b, .int .u32 c, .int .u16 d]] W (Ret (.tuple #[.string (tr z 0 a 0 a b c d), .int .i64 tw]) W)) : CallJ Tryz.prog A 23 [ptr 0, .string s, .agg #[.int .u8 op, .int .u32 oa, .int .u16 ob, .int .u32 oc, .int .u16 od, .int .u8 rp, .int .u32 ra, .int .u16 rb, .int .u32 rc, .int .u16 rd, .int .i64 st, .int .i64 dl, HV]] (M ++ E) 3 (sdV ro tr inn sa sk kp ka kb kc kd e op oa ob oc od rp ra rb rc rd rw tw) (M ++ E) 3 := by
  unfold sdV
  have hM : inBlks 3 (M ++ E) = true := hH.in_
  rcases hH with ⟨rfl, rfl, ⟨_, rfl⟩ | rfl⟩ | ⟨rfl, rfl, rfl⟩ | ⟨rfl, rfl, rfl⟩
  all_goals
    all_goals
      let p1 : List (Ev Tryz.prog A) := [does 4 (args := [.string s]) c1]
      cases h1 : (e != 0)
      · let p2 : List (Ev Tryz.prog A) := p1 ++ [no 13 h1]
        cases h2 : (kp == op && (ka == oa && (kb == ob && true) && (kc == oc && (kd == od && true) && true)))
        · let p3 : List (Ev Tryz.prog A) := p2 ++ [no 25 h2]
          cases h3 : (kp == rp && (ka == ra && (kb == rb && true) && (kc == rc && (kd == rd && true) && true)))
          · exact (con (nx' := 7) (p3 ++ [nyes 44 h3])).drop (h2 := hM) (h4 := hM)
          · let p4 : List (Ev Tryz.prog A) := p3 ++ [nno 44 h3, yes 50 h3]
            cases h4 : (sk != 3)
            · let p5 : List (Ev Tryz.prog A) := p4 ++ [no 66 h4, callsR 90 11 (c2 11 (by decide))]
              cases h5 : (inn sa)
              · let p6 : List (Ev Tryz.prog A) := p5 ++ [isF 91 h5]
                cases h6 : (sa == ka)
                · exact (con (nx' := 13) (p6 ++ [no 103 h6, yes 111 h3, does 121 (args := [.string s, .agg #[.int .u32 sa, .int .u16 0, .int .u32 oa, .int .u16 0], .agg #[.int .u32 oa, .int .u16 ob, .int .u32 oc, .int .u16 od]]) (c4 hx ho)])).drop (h2 := hM) (h4 := hM)
                · exact (con (nx' := 13) (p6 ++ [yes 103 h6, yes 117 h3, does 127 (args := [.string s, .agg #[.int .u32 oc, .int .u16 0, .int .u32 oa, .int .u16 0], .agg #[.int .u32 oa, .int .u16 ob, .int .u32 oc, .int .u16 od]]) (c4 ho.2.2.1 ho)])).drop (h2 := hM) (h4 := hM)
              · exact (con (nx' := 13) (p5 ++ [isT 91 h5, yes 117 h3, does 127 (args := [.string s, .agg #[.int .u32 oc, .int .u16 0, .int .u32 oa, .int .u16 0], .agg #[.int .u32 oa, .int .u16 ob, .int .u32 oc, .int .u16 od]]) (c4 ho.2.2.1 ho)])).drop (h2 := hM) (h4 := hM)
            · exact (con (nx' := 10) (p4 ++ [yes 66 h4, does 69 (args := [.string s, .agg #[.int .u32 oc, .int .u16 od, .int .u32 oa, .int .u16 ob]]) (c3 ho)])).drop (h2 := hM) (h4 := hM)
        · let p7 : List (Ev Tryz.prog A) := p2 ++ [yes 25 h2]
          cases h7 : (sk != 3)
          · let p8 : List (Ev Tryz.prog A) := p7 ++ [no 58 h7, callsR 82 11 (c2 11 (by decide))]
            cases h8 : (inn sa)
            · let p9 : List (Ev Tryz.prog A) := p8 ++ [isF 83 h8]
              cases h9 : (sa == ka)
              · exact (con (nx' := 13) (p9 ++ [no 95 h9, does 113 (args := [.string s, .agg #[.int .u32 sa, .int .u16 0, .int .u32 ra, .int .u16 0], .agg #[.int .u32 ra, .int .u16 rb, .int .u32 rc, .int .u16 rd]]) (c4 hx hr)])).drop (h2 := hM) (h4 := hM)
              · exact (con (nx' := 13) (p9 ++ [yes 95 h9, does 119 (args := [.string s, .agg #[.int .u32 rc, .int .u16 0, .int .u32 ra, .int .u16 0], .agg #[.int .u32 ra, .int .u16 rb, .int .u32 rc, .int .u16 rd]]) (c4 hr.2.2.1 hr)])).drop (h2 := hM) (h4 := hM)
            · exact (con (nx' := 13) (p8 ++ [isT 83 h8, does 119 (args := [.string s, .agg #[.int .u32 rc, .int .u16 0, .int .u32 ra, .int .u16 0], .agg #[.int .u32 ra, .int .u16 rb, .int .u32 rc, .int .u16 rd]]) (c4 hr.2.2.1 hr)])).drop (h2 := hM) (h4 := hM)
          · exact (con (nx' := 10) (p7 ++ [yes 58 h7, does 61 (args := [.string s, .agg #[.int .u32 rc, .int .u16 rd, .int .u32 ra, .int .u16 rb]]) (c3 hr)])).drop (h2 := hM) (h4 := hM)
      · exact (con (nx' := 5) (p1 ++ [yes 13 h1])).drop (h2 := hM) (h4 := hM)
end Go.Proofs.YtilfcikhipadpaaGreatDoor
end

section
/- strings.Builder's methods over this program: copyCheck, WriteByte, WriteString, String leave a builder that holds what was written, and what lay below stays as it was. Conditions: at most 2^47 bytes. (Turned from the shelf's own proofs to this program.) -/
set_option linter.unusedVariables false
namespace Go.Proofs.YtilfcikhipadpaaGreatDoor
open Go.RowKit

theorem sizeBuilder : (Tryz.prog.info? 265).map (·.size) = some 2 := by kernel_rfl
theorem liesBuilder : liesAt Tryz.prog Tryz.prog.depth 265 (2 / Tryz.prog.cellsOf 265) 0 265 1 = true := by kernel_rfl
theorem infoByte : (Tryz.prog.info? 5).map (fun i => (i.zero, i.size, i.bytes)) = some (some (.int .u8 0), 1, 1) := by kernel_rfl
theorem cellsByte : Tryz.prog.cellsOf 5 = 1 := by kernel_rfl

set_option maxHeartbeats 1000000 in
set_option maxRecDepth 100000 in
theorem copyCheck_used (b : Nat) (w : World) (h0 : w.cell? ⟨b, 0, none⟩ = some (.pointer (some ⟨b, 0, none⟩))) :
    Calls Tryz.prog 202 #[.pointer (some ⟨b, 0, none⟩)] w fun e w' => e = .returned (.tuple #[]) ∧ w' = w := by
  obtain ⟨j, hj, _⟩ := Option.map_eq_some_iff.1 sizeBuilder
  go_enter Tryz.func202, Tryz.ntmps202
  go_wp2
  rw [Lib.run_neq_ptr_same w _ Tryz.underlying263 hj]
  go_wp2
  go_end0
  exact ⟨rfl, rfl⟩

set_option maxHeartbeats 1000000 in
set_option maxRecDepth 100000 in
theorem copyCheck_fresh (b : Nat) (w : World) (h0 : w.cell? ⟨b, 0, none⟩ = some (.pointer none)) (hsh : w.shape? b = some (265, 2)) (hfz : w.frozen? ⟨b, 0, none⟩ = false) :
    Calls Tryz.prog 202 #[.pointer (some ⟨b, 0, none⟩)] w fun e w' => e = .returned (.tuple #[]) ∧ w' = w.setCell ⟨b, 0, none⟩ (.pointer (some ⟨b, 0, none⟩)) := by
  obtain ⟨j, hj, hjs⟩ := Option.map_eq_some_iff.1 sizeBuilder
  go_enter Tryz.func202, Tryz.ntmps202
  go_wp2
  rw [Lib.run_to_unsafe w ⟨b, 0, none⟩ Tryz.underlying263 Tryz.underlying306 hj (by rw [hjs]; decide) hsh (Nat.zero_lt_succ 1)]
  simp only [Result.andThen]
  rw [Oper.upon_value]
  go_wp2
  rw [run_callFunc_extern Tryz.func208 (by kernel_rfl) (by kernel_rfl) (by kernel_rfl) (e := Extern.AbiNoEscape.same) (by kernel_rfl)]
  rw [Lib.run_noEscape]
  simp only [Result.andThen]
  rw [Oper.upon_value]
  go_wp2
  rw [Lib.run_from_unsafe w ⟨b, 0, none⟩ Tryz.underlying306 Tryz.underlying263 hj hsh liesBuilder]
  simp only [Result.andThen]
  rw [Oper.upon_value]
  go_wp2
  go_end0
  exact ⟨rfl, rfl⟩

theorem Builder_copyCheck (B b : Nat) (bs : List Value) (w : World) (h : Lib.IsBuilder 265 5 B b bs w) :
    Calls Tryz.prog 202 #[.pointer (some ⟨b, 0, none⟩)] w fun e w' => e = .returned (.tuple #[]) ∧ (Lib.BuilderAt 265 5 B b (.pointer (some ⟨b, 0, none⟩)) bs w' ∧ Below B w w') := by
  rcases h with h | h
  · refine (copyCheck_fresh b w h.cell0 h.shape h.frozen0).mono ?_
    rintro e w' ⟨rfl, rfl⟩
    exact ⟨rfl, h.used _, (Below.refl B w).setCell (p := ⟨b, 0, none⟩) h.1 _⟩
  · refine (copyCheck_used b w h.cell0).mono ?_
    rintro e w' ⟨rfl, rfl⟩
    exact ⟨rfl, h, Below.refl B _⟩

set_option maxHeartbeats 2000000 in
set_option maxRecDepth 100000 in
theorem Builder_WriteByte (B b : Nat) (bs : List Value) (c : Int) (w : World) (h : Lib.IsBuilder 265 5 B b bs w) (hlen : bs.length + 1 ≤ 140737488355328) (hBw : B ≤ w.heap.size) :
    Calls Tryz.prog 168 #[.pointer (some ⟨b, 0, none⟩), .int .u8 c] w fun e w' => e = .returned .nilIface ∧ (Lib.BuilderAt 265 5 B b (.pointer (some ⟨b, 0, none⟩)) (bs ++ [.int .u8 c]) w' ∧ Below B w w') := by
  obtain ⟨i0, hi, hz0, hz1, hz2⟩ := info_parts infoByte
  go_enter Tryz.func168, Tryz.ntmps168
  go_wp2_with (go_at_call 202; refine (Builder_copyCheck B b bs _ h).mono ?_)
  rintro e w1 ⟨rfl, h1, hb1⟩
  obtain ⟨hB, v, hbk, hown, hne⟩ := h1
  have c0 : w1.cell? ⟨b, 0, none⟩ = some (.pointer (some ⟨b, 0, none⟩)) := by rw [Lib.cell_of_heap hbk]; rfl
  have c1 : w1.cell? ⟨b, 1, none⟩ = some v := by rw [Lib.cell_of_heap hbk]; rfl
  go_wp2_with (at_builtin; refine wpList_append_own _ rfl _ _ 237 rfl B 5 i0 (.int .u8 0) 1 1 Tryz.underlying237 hi hz0 hz1 hz2 rfl (by decide) _ _ _ rfl (hown.alloc _) ⟨w1.heap.size, 0, none⟩ 1 1 [.int .u8 c] rfl rfl ?c1 ?c2 ?c3 ?c4 ?c5 ?_)
  case c1 =>
    intro j u hj
    match j, hj with
    | 0, hj => simp at hj; subst hj; simp [Addr.add]
  case c2 => intro u hu; simp at hu; subst hu; rfl
  case c3 => unfold maxLen; omega
  case c4 => omega
  case c5 => have := hb1.size; simp; omega
  intro v' w2 hown' hgrow _
  have hlt : b < w1.heap.size := by
    rcases Nat.lt_or_ge b w1.heap.size with h' | h'
    · exact h'
    · simp [Array.getElem?_eq_none h'] at hbk
  have hb2 : w2.heap[b]? = some (.cells #[.pointer (some ⟨b, 0, none⟩), v] 265 (0, 0)) := by
    rw [hgrow.block b (by simp; omega) (fun e => hne e.symm), Lib.alloc_old w1 _ b hlt]
    exact hbk
  have d0 : w2.cell? ⟨b, 0, none⟩ = some (.pointer (some ⟨b, 0, none⟩)) := by rw [Lib.cell_of_heap hb2]; rfl
  have d1 : w2.cell? ⟨b, 1, none⟩ = some v := by rw [Lib.cell_of_heap hb2]; rfl
  have f1 : w2.frozen? ⟨b, 1, none⟩ = false := Lib.frozen_of_heap hb2 1
  obtain ⟨g, cap, rfl⟩ : ∃ g cap, v' = .slice (some ⟨g, 0, none⟩) (bs.length + 1) cap := by
    rcases hown'.2 with ⟨_, h0⟩ | ⟨g, cap, cur, hv, _⟩
    · omega
    · exact ⟨g, cap, hv⟩
  go_wp2
  go_ret
  refine ⟨rfl, ?_, ?_⟩
  · exact Lib.BuilderAt.put (T := 265) (e := 5) hB hb2 (bs' := bs ++ [.int .u8 c]) (by simpa using hown') (by decide)
  · exact ((hb1.alloc (by have := hb1.size; omega) _).grown hgrow (by have := hb1.size; simp; omega) (fun k hk => (hown.lt k hk).1)).setCell (p := ⟨b, 1, none⟩) hB _

set_option maxHeartbeats 2000000 in
set_option maxRecDepth 100000 in
theorem Builder_WriteString (B b : Nat) (bs : List Value) (s : ByteArray) (w : World) (h : Lib.IsBuilder 265 5 B b bs w) (hlen : bs.length + s.size ≤ 140737488355328) (hBw : B ≤ w.heap.size) :
    Calls Tryz.prog 201 #[.pointer (some ⟨b, 0, none⟩), .string s] w fun e w' => e = .returned (.tuple #[.int .i64 s.size, .nilIface]) ∧ (Lib.BuilderAt 265 5 B b (.pointer (some ⟨b, 0, none⟩)) (bs ++ Lib.strCells s) w' ∧ Below B w w') := by
  obtain ⟨i0, hi, hz0, hz1, hz2⟩ := info_parts infoByte
  go_enter Tryz.func201, Tryz.ntmps201
  go_wp2_with (go_at_call 202; refine (Builder_copyCheck B b bs _ h).mono ?_)
  rintro e w1 ⟨rfl, h1, hb1⟩
  obtain ⟨hB, v, hbk, hown, hne⟩ := h1
  have c0 : w1.cell? ⟨b, 0, none⟩ = some (.pointer (some ⟨b, 0, none⟩)) := by rw [Lib.cell_of_heap hbk]; rfl
  have c1 : w1.cell? ⟨b, 1, none⟩ = some v := by rw [Lib.cell_of_heap hbk]; rfl
  go_wp2_with (at_builtin; refine Lib.wpList_append_own_string _ rfl _ _ 237 9 rfl B 5 i0 Tryz.underlying237 Tryz.underlying9 hi hz0 hz1 hz2 _ _ _ rfl hown s rfl ?c3 ?c4 ?c5 ?_)
  case c3 => unfold maxLen; omega
  case c4 => omega
  case c5 => have := hb1.size; omega
  intro v' w2 hown' hgrow _
  have hlt : b < w1.heap.size := by
    rcases Nat.lt_or_ge b w1.heap.size with h' | h'
    · exact h'
    · simp [Array.getElem?_eq_none h'] at hbk
  have hb2 : w2.heap[b]? = some (.cells #[.pointer (some ⟨b, 0, none⟩), v] 265 (0, 0)) := by
    rw [hgrow.block b hlt (fun e => hne e.symm)]
    exact hbk
  have d0 : w2.cell? ⟨b, 0, none⟩ = some (.pointer (some ⟨b, 0, none⟩)) := by rw [Lib.cell_of_heap hb2]; rfl
  have d1 : w2.cell? ⟨b, 1, none⟩ = some v := by rw [Lib.cell_of_heap hb2]; rfl
  have f1 : w2.frozen? ⟨b, 1, none⟩ = false := Lib.frozen_of_heap hb2 1
  obtain ⟨ao, n', cap, rfl⟩ : ∃ ao n' cap, v' = .slice ao n' cap := by
    rcases hown'.2 with ⟨hv, _⟩ | ⟨g, cap, cur, hv, _⟩
    · exact ⟨_, _, _, hv⟩
    · exact ⟨_, _, _, hv⟩
  go_wp2
  go_ret2
  refine ⟨rfl, ?_, ?_⟩
  · exact Lib.BuilderAt.put (T := 265) (e := 5) hB hb2 (bs' := bs ++ Lib.strCells s) (by simpa [Lib.strCells_length] using hown') (by decide)
  · exact (hb1.grown hgrow (by have := hb1.size; omega) (fun k hk => (hown.lt k hk).1)).setCell (p := ⟨b, 1, none⟩) hB _

set_option maxHeartbeats 1000000 in
set_option maxRecDepth 100000 in
theorem Builder_String_some (B b : Nat) (l : List UInt8) (w : World) (h : Lib.IsBuilder 265 5 B b (Lib.byteCells l) w) (h0 : l ≠ []) :
    Calls Tryz.prog 169 #[.pointer (some ⟨b, 0, none⟩)] w fun e w' => e = .returned (.string ⟨l.toArray⟩) ∧ Below B w w' := by
  obtain ⟨p, hB, v, hbk, hown, hne⟩ : ∃ p, Lib.BuilderAt 265 5 B b p (Lib.byteCells l) w := by
    rcases h with h | h
    · exact ⟨_, h⟩
    · exact ⟨_, h⟩
  have hl0 : l.length ≠ 0 := by simpa using h0
  rw [Lib.byteCells_length] at hown
  obtain ⟨g, cap, cur, rfl, hbg, hg, hnc, hcm, hcs, htake⟩ : ∃ g cap cur, v = .slice (some ⟨g, 0, none⟩) l.length cap ∧ B ≤ g ∧ w.heap[g]? = some (.cells cur 5 (0, 0)) ∧ l.length ≤ cap ∧ cap ≤ maxLen ∧ cur.size = cap * 1 ∧ cur.toList.take (l.length * 1) = Lib.byteCells l := by
    rcases hown.2 with ⟨_, hz⟩ | ⟨g, cap, cur, hv, r⟩
    · exact absurd hz hl0
    · exact ⟨g, cap, cur, hv, r⟩
  have c1 : w.drew.cell? ⟨b, 1, none⟩ = some (.slice (some ⟨g, 0, none⟩) l.length cap) := by
    have : w.drew.heap[b]? = some (.cells #[p, .slice (some ⟨g, 0, none⟩) l.length cap] 265 (0, 0)) := hbk
    rw [Lib.cell_of_heap this]; rfl
  have hSD : (Builtin.unsafeSliceData_ #[237] 298 #[.slice (some ⟨g, 0, none⟩) l.length cap]).run Tryz.prog w.drew = .ok (.pointer (some ⟨g, 0, none⟩)) w.drew :=
    Lib.run_unsafeSliceData_row _ _ _ _ _ _ (by omega)
  have hUS : (Builtin.unsafeString_ #[298, 3] 9 #[.pointer (some ⟨g, 0, none⟩), .int .i64 l.length]).run Tryz.prog w.drew = .ok (.string ⟨l.toArray⟩) (w.drew.freeze ⟨g, 0, none⟩ l.length) := by
    refine Lib.run_unsafeString_row w.drew 298 3 9 5 Tryz.underlying298 cellsByte g cur.size (by have hg' : w.drew.heap[g]? = some (.cells cur 5 (0, 0)) := hg; simp [World.shape?, hg']) l h0 (by omega) (by unfold maxLen at hcm; omega) ?_
    intro j x hx
    have := hown.cells (g := g) rfl j (.int .u8 x.toNat) (by simp [Lib.byteCells, hx])
    exact this
  go_enter Tryz.func169, Tryz.ntmps169
  go_wp2
  go_region
  all_goals (go_wp2; go_ret; exact ⟨rfl, Lib.below_freeze (Below.drew (Below.refl B w)) (p := ⟨g, 0, none⟩) hbg _⟩)

theorem unsafeString_none (W : World) (q : Option Addr) : (Builtin.unsafeString_ #[298, 3] 9 #[.pointer q, .int .i64 0]).run Tryz.prog W = .ok (.string .empty) W :=
  Lib.run_unsafeString_none W _ _ _ q

set_option maxHeartbeats 2000000 in
set_option maxRecDepth 100000 in
theorem Builder_String_nil (B b : Nat) (p : Value) (w : World) (hbk : w.heap[b]? = some (.cells #[p, .slice none 0 0] 265 (0, 0))) :
    Calls Tryz.prog 169 #[.pointer (some ⟨b, 0, none⟩)] w fun e w' => e = .returned (.string ⟨#[]⟩) ∧ Below B w w' := by
  have hUS := unsafeString_none
  have c1 : w.drew.cell? ⟨b, 1, none⟩ = some (.slice none 0 0) := by
    have : w.drew.heap[b]? = some (.cells #[p, .slice none 0 0] 265 (0, 0)) := hbk
    rw [Lib.cell_of_heap this]; rfl
  have hSD : (Builtin.unsafeSliceData_ #[237] 298 #[.slice none 0 0]).run Tryz.prog w.drew = .ok (.pointer none) w.drew := rfl
  go_enter Tryz.func169, Tryz.ntmps169
  go_wp2
  go_region
  all_goals (go_wp2; go_ret; exact ⟨rfl, Below.drew (Below.refl B w)⟩)

set_option maxHeartbeats 2000000 in
set_option maxRecDepth 100000 in
theorem Builder_String_noroom (B b g : Nat) (p : Value) (cur : Array Value) (w : World) (hBw : B ≤ w.heap.size) (hbk : w.heap[b]? = some (.cells #[p, .slice (some ⟨g, 0, none⟩) 0 0] 265 (0, 0))) (hg : w.heap[g]? = some (.cells cur 5 (0, 0))) :
    Calls Tryz.prog 169 #[.pointer (some ⟨b, 0, none⟩)] w fun e w' => e = .returned (.string ⟨#[]⟩) ∧ Below B w w' := by
  have hUS := unsafeString_none
  have hlt : b < w.heap.size := by
    rcases Nat.lt_or_ge b w.heap.size with h' | h'
    · exact h'
    · simp [Array.getElem?_eq_none h'] at hbk
  have c1 : w.drew.cell? ⟨b, 1, none⟩ = some (.slice (some ⟨g, 0, none⟩) 0 0) := by
    have : w.drew.heap[b]? = some (.cells #[p, .slice (some ⟨g, 0, none⟩) 0 0] 265 (0, 0)) := hbk
    rw [Lib.cell_of_heap this]; rfl
  have hSD : (Builtin.unsafeSliceData_ #[237] 298 #[.slice (some ⟨g, 0, none⟩) 0 0]).run Tryz.prog w.drew = .ok (.pointer (some ⟨w.drew.heap.size, 0, none⟩)) (w.drew.alloc (.view ⟨g, 0, none⟩ 5)) :=
    Lib.run_unsafeSliceData_zero w.drew _ _ 5 Tryz.underlying298 ⟨g, 0, none⟩ 0 (5, cur.size) (by have hg' : w.drew.heap[g]? = some (.cells cur 5 (0, 0)) := hg; simp [World.shape?, hg'])
  have c2 : (w.drew.alloc (.view ⟨g, 0, none⟩ 5)).cell? ⟨b, 1, none⟩ = some (.slice (some ⟨g, 0, none⟩) 0 0) := by
    have : (w.drew.alloc (.view ⟨g, 0, none⟩ 5)).heap[b]? = _ := (Lib.alloc_old w.drew _ b hlt).trans hbk
    rw [Lib.cell_of_heap this]; rfl
  have c3 : (w.alloc (.view ⟨g, 0, none⟩ 5)).drew.cell? ⟨b, 1, none⟩ = some (.slice (some ⟨g, 0, none⟩) 0 0) := c2
  have c0 : w.cell? ⟨b, 1, none⟩ = some (.slice (some ⟨g, 0, none⟩) 0 0) := c1
  go_enter Tryz.func169, Tryz.ntmps169
  go_wp2
  go_region
  all_goals (go_wp2; go_ret; exact ⟨rfl, (Below.drew (Below.refl B w)).alloc hBw _⟩)

set_option maxHeartbeats 2000000 in
set_option maxRecDepth 100000 in
theorem Builder_String_room (B b g cap : Nat) (p : Value) (w : World) (hc0 : cap ≠ 0) (hbk : w.heap[b]? = some (.cells #[p, .slice (some ⟨g, 0, none⟩) 0 cap] 265 (0, 0))) :
    Calls Tryz.prog 169 #[.pointer (some ⟨b, 0, none⟩)] w fun e w' => e = .returned (.string ⟨#[]⟩) ∧ Below B w w' := by
  have hUS := unsafeString_none
  have c1 : w.drew.cell? ⟨b, 1, none⟩ = some (.slice (some ⟨g, 0, none⟩) 0 cap) := by
    have : w.drew.heap[b]? = some (.cells #[p, .slice (some ⟨g, 0, none⟩) 0 cap] 265 (0, 0)) := hbk
    rw [Lib.cell_of_heap this]; rfl
  have hSD : (Builtin.unsafeSliceData_ #[237] 298 #[.slice (some ⟨g, 0, none⟩) 0 cap]).run Tryz.prog w.drew = .ok (.pointer (some ⟨g, 0, none⟩)) w.drew :=
    Lib.run_unsafeSliceData_row _ _ _ _ _ _ hc0
  clear hc0
  go_enter Tryz.func169, Tryz.ntmps169
  go_wp2
  go_region
  all_goals (go_wp2; go_ret; exact ⟨rfl, Below.drew (Below.refl B w)⟩)

theorem Builder_String_empty (B b : Nat) (w : World) (h : Lib.IsBuilder 265 5 B b [] w) (hBw : B ≤ w.heap.size) :
    Calls Tryz.prog 169 #[.pointer (some ⟨b, 0, none⟩)] w fun e w' => e = .returned (.string ⟨#[]⟩) ∧ Below B w w' := by
  obtain ⟨p, hB, v, hbk, hown, hne⟩ : ∃ p, Lib.BuilderAt 265 5 B b p [] w := by
    rcases h with h | h
    · exact ⟨_, h⟩
    · exact ⟨_, h⟩
  rcases hown.2 with ⟨rfl, _⟩ | ⟨g, cap, cur, rfl, hbg, hg, _, _, _, _⟩
  · exact Builder_String_nil B b p w hbk
  · by_cases hc0 : cap = 0
    · subst hc0
      exact Builder_String_noroom B b g p cur w hBw hbk hg
    · exact Builder_String_room B b g cap p w hc0 hbk

/-- String: whatever the builder holds. -/
theorem Builder_String (B b : Nat) (l : List UInt8) (w : World) (h : Lib.IsBuilder 265 5 B b (Lib.byteCells l) w) (hBw : B ≤ w.heap.size) :
    Calls Tryz.prog 169 #[.pointer (some ⟨b, 0, none⟩)] w fun e w' => e = .returned (.string (S l)) ∧ Below B w w' := by
  cases l with
  | nil => exact Builder_String_empty B b w h hBw
  | cons x r => exact Builder_String_some B b (x :: r) w h (by simp)
end Go.Proofs.YtilfcikhipadpaaGreatDoor
end

section
/- The package fields over this program: each function returns what the words of the base say. Conditions: texts below 2^47 bytes. -/
set_option linter.unusedVariables false
namespace Go.Proofs.YtilfcikhipadpaaGreatDoor
open Go.RowKit

theorem whole_any (s : ByteArray) (i many : Int) (w : World) (hs : s.size ≤ maxLen) (h1 : -9223372036854775808 ≤ i ∧ i ≤ 9223372036854775807) (h2 : 0 ≤ many ∧ many ≤ 9223372036854775807) :
    Calls Tryz.prog 199 #[.string s, .int .i64 i, .int .i64 many] w fun e w' => e = .returned (.bool (has s.size i many)) ∧ w = w' := by
  unfold maxLen at hs
  obtain ⟨h1a, h1b⟩ := h1
  obtain ⟨h2a, h2b⟩ := h2
  by_cases ha : 0 ≤ i
  · by_cases hc : many ≤ s.size
    · by_cases hd : i ≤ s.size - many
      · go_enter Tryz.func199, Tryz.ntmps199
        go_wp2
        go_ret
        exact ⟨ret_bool (by simp [has]; omega), rfl⟩
      · go_enter Tryz.func199, Tryz.ntmps199
        go_wp2
        go_ret
        exact ⟨ret_bool (by simp [has]; omega), rfl⟩
    · go_enter Tryz.func199, Tryz.ntmps199
      go_wp2
      go_ret
      exact ⟨ret_bool (by simp [has]; omega), rfl⟩
  · go_enter Tryz.func199, Tryz.ntmps199
    go_wp2
    go_ret
    exact ⟨ret_bool (by simp [has]; omega), rfl⟩

theorem Get16_in (s : ByteArray) (k : Nat) (w : World) (hs : s.size ≤ maxLen) (h : k + 2 ≤ s.size) :
    Calls Tryz.prog 165 #[.string s, .int .i64 k] w (Quiet (.tuple #[.int .u16 (be16 (L s) k), .bool true]) w) := by
  have hs' := hs
  unfold maxLen at hs'
  have hx : has s.size k 2 = true := by simp [has]; omega
  have hw := whole_any s k 2 w hs ⟨by omega, by omega⟩ ⟨by omega, by omega⟩
  rw [hx] at hw
  have e1 := getElem_L s k (by omega)
  have e2 := getElem_L s (k + 1) (by omega)
  have fin : bits BinOp.or IntKind.u16 (IntKind.u16.wrap (IntKind.u16.wrap (s[k]'(by omega)).toNat * 256)) (IntKind.u16.wrap (s[k + 1]'(by omega)).toNat) = be16 (L s) k := by
    have b1 := at_bd (L s) k
    have b2 := at_bd (L s) (k + 1)
    rw [e1, e2]
    exact or16w _ _ b1.1 b1.2 b2.1 b2.2
  have HF := hide fin
  clear fin e1 e2 hx
  have k1 : (0 : Int) ≤ (k : Int) := by omega
  have k2 : (k : Int) < (s.size : Int) := by omega
  have k3 : (0 : Int) ≤ (k : Int) + 1 := by omega
  have k4 : (k : Int) + 1 < (s.size : Int) := by omega
  have k5 : k < s.size := by omega
  have k6 : k + 1 < s.size := by omega
  have k7 : ((k : Int) + 1).toNat = k + 1 := by omega
  have k8 : IntKind.i64.wrap ((k : Int) + 1) = (k : Int) + 1 := IntWalk.i64_in _ (by omega)
  go_enter Tryz.func165, Tryz.ntmps165
  go_wp2_with (go_at_call 199; refine hw.mono ?_; rintro e w' ⟨rfl, rfl⟩)
  go_quiet (fail)
  go_wp2
  go_ret2
  exact ⟨ret_two (v_int HF.out) rfl, nq, rfl⟩

theorem Get16_out (s : ByteArray) (i : Int) (w : World) (hs : s.size ≤ maxLen) (h1 : -9223372036854775808 ≤ i ∧ i ≤ 9223372036854775807) (h : has s.size i 2 = false) :
    Calls Tryz.prog 165 #[.string s, .int .i64 i] w (Quiet (.tuple #[.int .u16 0, .bool false]) w) := by
  have hw := whole_any s i 2 w hs h1 ⟨by omega, by omega⟩
  rw [h] at hw
  clear h
  go_enter Tryz.func165, Tryz.ntmps165
  go_wp2_with (go_at_call 199; refine hw.mono ?_; rintro e w' ⟨rfl, rfl⟩)
  go_ret2
  exact ⟨rfl, 0, rfl⟩

theorem get16_nat {l : List UInt8} {k : Nat} (h : k + 2 ≤ l.length) : get16 l k = be16 l k := by
  unfold get16; rw [if_pos (by simp [has]; omega)]; simp
theorem get32_nat {l : List UInt8} {k : Nat} (h : k + 4 ≤ l.length) : get32 l k = be32 l k := by
  unfold get32; rw [if_pos (by simp [has]; omega)]; simp

/-- Get16, at any place -/
theorem Get16_q (s : ByteArray) (i : Int) (w : World) (hs : s.size ≤ maxLen) (h1 : -9223372036854775808 ≤ i ∧ i ≤ 9223372036854775807) :
    Calls Tryz.prog 165 #[.string s, .int .i64 i] w (Quiet (.tuple #[.int .u16 (get16 (L s) i), .bool (has s.size i 2)]) w) := by
  by_cases h : has s.size i 2 = true
  · have h' := h
    simp [has] at h'
    obtain ⟨k, rfl⟩ : ∃ k : Nat, i = k := ⟨i.toNat, by omega⟩
    have h2 : k + 2 ≤ (L s).length := by rw [L_length]; omega
    rw [get16_nat h2, h]
    exact Get16_in s k w hs (by omega)
  · have h' : has s.size i 2 = false := by simpa using h
    have hg : get16 (L s) i = 0 := by unfold get16; rw [L_length, if_neg h]
    rw [hg, h']
    exact Get16_out s i w hs h1 h'
theorem Get16 (s : ByteArray) (i : Int) (w : World) (hs : s.size ≤ maxLen) (h1 : -9223372036854775808 ≤ i ∧ i ≤ 9223372036854775807) :
    Calls Tryz.prog 165 #[.string s, .int .i64 i] w (Ret (.tuple #[.int .u16 (get16 (L s) i), .bool (has s.size i 2)]) w) :=
  (Get16_q s i w hs h1).mono fun _ _ h => h.ret

theorem Get32_in (s : ByteArray) (k : Nat) (w : World) (hs : s.size ≤ maxLen) (h : k + 4 ≤ s.size) :
    Calls Tryz.prog 178 #[.string s, .int .i64 k] w (Quiet (.tuple #[.int .u32 (be32 (L s) k), .bool true]) w) := by
  have hs' := hs
  unfold maxLen at hs'
  have hx : has s.size k 4 = true := by simp [has]; omega
  have hw := whole_any s k 4 w hs ⟨by omega, by omega⟩ ⟨by omega, by omega⟩
  rw [hx] at hw
  have fin : bits BinOp.or IntKind.u32 (be16 (L s) k * 65536) (be16 (L s) (k + 2)) = be32 (L s) k := by
    have b1 := be16_bd (L s) k
    have b2 := be16_bd (L s) (k + 2)
    rw [or32 _ _ (by omega) (by omega) (by omega) (by omega)]; rfl
  have HF := hide fin
  clear fin hx
  obtain ⟨b1, b2⟩ := be16_bd (L s) k
  obtain ⟨b3, b4⟩ := be16_bd (L s) (k + 2)
  go_enter Tryz.func178, Tryz.ntmps178
  go_wp2_with (go_at_call 199; refine hw.mono ?_; rintro e w' ⟨rfl, rfl⟩)
  refine (Get16_in s k _ hs (by omega)).mono ?_
  rintro e w1 ⟨rfl, n1, rfl⟩
  go_wp2_with fail
  rw [show ((k : Int) + 2) = ((k + 2 : Nat) : Int) from by omega]
  refine (Get16_in s (k + 2) _ hs (by omega)).mono ?_
  rintro e w1 ⟨rfl, n2, rfl⟩
  go_wp2
  go_ret2
  exact ⟨ret_two (v_int HF.out) rfl, n1 + n2, rfl⟩

theorem Get32_out (s : ByteArray) (i : Int) (w : World) (hs : s.size ≤ maxLen) (h1 : -9223372036854775808 ≤ i ∧ i ≤ 9223372036854775807) (h : has s.size i 4 = false) :
    Calls Tryz.prog 178 #[.string s, .int .i64 i] w (Quiet (.tuple #[.int .u32 0, .bool false]) w) := by
  have hw := whole_any s i 4 w hs h1 ⟨by omega, by omega⟩
  rw [h] at hw
  clear h
  go_enter Tryz.func178, Tryz.ntmps178
  go_wp2_with (go_at_call 199; refine hw.mono ?_; rintro e w' ⟨rfl, rfl⟩)
  go_ret2
  exact ⟨rfl, 0, rfl⟩

/-- Get32, at any place -/
theorem Get32_q (s : ByteArray) (i : Int) (w : World) (hs : s.size ≤ maxLen) (h1 : -9223372036854775808 ≤ i ∧ i ≤ 9223372036854775807) :
    Calls Tryz.prog 178 #[.string s, .int .i64 i] w (Quiet (.tuple #[.int .u32 (get32 (L s) i), .bool (has s.size i 4)]) w) := by
  by_cases h : has s.size i 4 = true
  · have h' := h
    simp [has] at h'
    obtain ⟨k, rfl⟩ : ∃ k : Nat, i = k := ⟨i.toNat, by omega⟩
    have h2 : k + 4 ≤ (L s).length := by rw [L_length]; omega
    rw [get32_nat h2, h]
    exact Get32_in s k w hs (by omega)
  · have h' : has s.size i 4 = false := by simpa using h
    have hg : get32 (L s) i = 0 := by unfold get32; rw [L_length, if_neg h]
    rw [hg, h']
    exact Get32_out s i w hs h1 h'
theorem Get32 (s : ByteArray) (i : Int) (w : World) (hs : s.size ≤ maxLen) (h1 : -9223372036854775808 ≤ i ∧ i ≤ 9223372036854775807) :
    Calls Tryz.prog 178 #[.string s, .int .i64 i] w (Ret (.tuple #[.int .u32 (get32 (L s) i), .bool (has s.size i 4)]) w) :=
  (Get32_q s i w hs h1).mono fun _ _ h => h.ret

/-! ### With -/
theorem strCells_L (s : ByteArray) : Lib.strCells s = Lib.byteCells (L s) := by
  unfold Lib.strCells Lib.byteCells L; rfl

theorem With_in (s : ByteArray) (k : Nat) (p : ByteArray) (w : World) (hs : s.size ≤ 140737488351232) (h : k + p.size ≤ s.size) :
    Calls Tryz.prog 167 #[.string s, .int .i64 k, .string p] w (Ret (.tuple #[.string (S ((L s).take k ++ (L p ++ (L s).drop (k + p.size)))), .bool true]) w) := by
  have hx : has s.size k p.size = true := by simp [has]; omega
  have hw := fun w => whole_any s k p.size w (by unfold maxLen; omega) ⟨by omega, by omega⟩ ⟨by omega, by omega⟩
  rw [hx] at hw
  have e1 : Lib.strCells (s.extract 0 k) = Lib.byteCells ((L s).take k) := by rw [strCells_L, L_extract]; simp
  have e2 : Lib.strCells (s.extract (k + p.size) s.size) = Lib.byteCells ((L s).drop (k + p.size)) := by
    rw [strCells_L, L_extract, List.take_of_length_le (by rw [List.length_drop, L_length]; omega)]
  have e3 := strCells_L p
  have z1 : (s.extract 0 k).size = k := by rw [← L_length, L_extract]; simp [L_length]; omega
  have z2 : (s.extract (k + p.size) s.size).size = s.size - (k + p.size) := by rw [← L_length, L_extract]; simp [L_length]
  have E1 := hide e1; have E2 := hide e2; have E3 := hide e3; have Z1 := hide z1; have Z2 := hide z2
  clear e1 e2 e3 z1 z2 hx
  have k1 : (k : Int) ≤ (s.size : Int) := by omega
  have k2 : (k : Int) + (p.size : Int) ≤ (s.size : Int) := by omega
  have k3 : k ≤ s.size := by omega
  go_enter Tryz.func167, Tryz.ntmps167
  go_wp2_with (go_at_call 199; refine (hw _).mono ?_; rintro e w' ⟨rfl, rfl⟩)
  refine (Builder_WriteString w.heap.size w.heap.size [] (s.extract 0 k) _ (Lib.fresh_isBuilder _ _ w) (by rw [Z1.out]; simp; omega) (by simp)).mono ?_
  rintro e w1 ⟨rfl, hB1, hb1⟩
  rw [List.nil_append, E1.out] at hB1
  have hb1 := (fresh_below w _).trans hb1
  have l1 := hb1.size
  go_wp2_with fail
  refine (Builder_WriteString w.heap.size w.heap.size _ p _ (.inr hB1) (by simp [Lib.byteCells_length]; omega) l1).mono ?_
  rintro e w2 ⟨rfl, hB2, hb2⟩
  rw [E3.out] at hB2
  have hb2 := hb1.trans hb2
  have l2 := hb2.size
  go_wp2_with fail
  refine (Builder_WriteString w.heap.size w.heap.size _ (s.extract (k + p.size) s.size) _ (.inr hB2) (by rw [Z2.out]; simp [Lib.byteCells_length, L_length]; omega) l2).mono ?_
  rintro e w3 ⟨rfl, hB3, hb3⟩
  rw [E2.out] at hB3
  have hb3 := hb2.trans hb3
  have l3 := hb3.size
  go_wp2_with fail
  refine (Builder_String w.heap.size w.heap.size ((L s).take k ++ (L p ++ (L s).drop (k + p.size))) _ (.inr (by simpa [Lib.byteCells] using hB3)) l3).mono ?_
  rintro e w4 ⟨rfl, hb4⟩
  have hb4 := hb3.trans hb4
  go_wp2_with fail
  go_ret2
  exact ⟨rfl, hb4⟩

theorem With_out (s : ByteArray) (i : Int) (p : ByteArray) (w : World) (hs : s.size ≤ maxLen) (hp : p.size ≤ maxLen) (h1 : -9223372036854775808 ≤ i ∧ i ≤ 9223372036854775807) (h : has s.size i p.size = false) :
    Calls Tryz.prog 167 #[.string s, .int .i64 i, .string p] w (Ret (.tuple #[.string (S []), .bool false]) w) := by
  unfold maxLen at hp
  have hw := whole_any s i p.size w hs h1 ⟨by omega, by omega⟩
  rw [h] at hw
  clear h
  go_enter Tryz.func167, Tryz.ntmps167
  go_wp2_with (go_at_call 199; refine hw.mono ?_; rintro e w' ⟨rfl, rfl⟩)
  go_ret2
  exact ⟨rfl, Below.refl _ _⟩

/-- With, at any place -/
theorem With (s : ByteArray) (i : Int) (p : ByteArray) (w : World) (hs : s.size ≤ 140737488351232) (hp : p.size ≤ 140737488351232) (h1 : -9223372036854775808 ≤ i ∧ i ≤ 9223372036854775807) :
    Calls Tryz.prog 167 #[.string s, .int .i64 i, .string p] w (Ret (.tuple #[.string (S (putAt (L s) i (L p))), .bool (has s.size i p.size)]) w) := by
  by_cases h : has s.size i p.size = true
  · have h' := h
    simp [has] at h'
    obtain ⟨k, rfl⟩ : ∃ k : Nat, i = k := ⟨i.toNat, by omega⟩
    have hg : putAt (L s) k (L p) = (L s).take k ++ (L p ++ (L s).drop (k + p.size)) := by unfold putAt; rw [L_length, L_length, if_pos h]; rfl
    rw [hg, h]
    exact With_in s k p w hs (by omega)
  · have h' : has s.size i p.size = false := by simpa using h
    have hg : putAt (L s) i (L p) = [] := by unfold putAt; rw [L_length, L_length, if_neg h]
    rw [hg, h']
    exact With_out s i p w (by unfold maxLen; omega) (by unfold maxLen; omega) h1 h'

/-! ### Word, Put16, Put32 -/
def ints16 (l : List Int) : List Value := l.map (Value.int .u16)
theorem ints16_at {l : List Int} {j : Nat} (h : j < l.length) : (ints16 l)[j]? = some (.int .u16 (l.getD j 0)) := by
  simp [ints16, List.getD_eq_getElem?_getD, List.getElem?_eq_getElem h]
theorem take_snoc_int (l : List Int) (k : Nat) (h : k < l.length) : l.take (k + 1) = l.take k ++ [l.getD k 0] := by
  rw [List.take_succ_eq_append_getElem h, List.getD_eq_getElem?_getD, List.getElem?_eq_getElem h]; rfl
theorem byteCells_put16 (l : List UInt8) (n c d : Int) (h0 : 0 ≤ n) (hc : c = n / 256 % 256) (hd : d = n % 256) : Lib.byteCells l ++ [.int .u8 c] ++ [.int .u8 d] = Lib.byteCells (l ++ put16 n) := by
  subst hc hd
  simp only [Lib.byteCells, put16, List.map_append, List.map_cons, List.map_nil, byt_int n h0, byt_int (n / 256) (by omega), List.append_assoc, List.cons_append, List.nil_append]

theorem getD_mem {l : List Int} {k : Nat} (h : k < l.length) : l.getD k 0 ∈ l := by
  rw [List.getD_eq_getElem?_getD, List.getElem?_eq_getElem h]; exact List.getElem_mem h

set_option maxHeartbeats 400000 in
theorem Word (A : Option Addr) (n c : Nat) (l : List Int) (w : World) (hr : Row w w.heap.size A n (ints16 l)) (hb : ∀ x ∈ l, 0 ≤ x ∧ x ≤ 65535) (hn : n ≤ 17592186044416) :
    Calls Tryz.prog 111 #[.slice A n c] w (Ret (.string (S (putW l))) w) := by
  have hl : l.length = n := by simpa [ints16] using hr.1
  have hfr := Lib.fresh_isBuilder 265 5 w
  have hbel := fresh_below w (.cells #[.pointer none, .slice none 0 0] 265)
  have HB := hide hb
  have HL := hide hl
  clear hb hl
  have hn1 : n ≤ 9223372036854775807 := by omega
  go_enter Tryz.func111, Tryz.ntmps111
  go_wp2
  go_loopw [8] (fun i wr => ∃ k : Nat, k ≤ n ∧ i = .int .i64 k ∧ Lib.IsBuilder 265 5 w.heap.size w.heap.size (Lib.byteCells (putW (l.take k))) wr ∧ Below w.heap.size w wr) (fun i _ => n - (intOf i).toNat)
  case atStart => exact ⟨0, Nat.zero_le _, rfl, hfr, hbel⟩
  case round =>
    obtain ⟨k, hk, rfl, hB, hbl⟩ := hrel
    have l0 := hbl.size
    by_cases hlt : k < n
    · obtain ⟨b, o, rfl, hbo, hc⟩ := hr.at_ (by omega)
      have hcell : wr.cell? ⟨b, o + k, none⟩ = some (.int .u16 (l.getD k 0)) := (hbl.cell (p := ⟨b, o + k, none⟩) hbo).trans (hc k _ (ints16_at (by rw [HL.out]; exact hlt)))
      obtain ⟨x, hx⟩ : ∃ x, x = l.getD k 0 := ⟨_, rfl⟩
      rw [← hx] at hcell
      have hxb : 0 ≤ x ∧ x ≤ 65535 := by rw [hx]; exact HB.out _ (getD_mem (by rw [HL.out]; exact hlt))
      obtain ⟨hx0, hx1⟩ := hxb
      have HX := hide hx
      clear hx hc
      have hlen : (putW (l.take k)).length = 2 * k := by rw [putW_length, List.length_take, HL.out]; omega
      have HLen := hide hlen
      clear hlen
      go_wp2_with fail
      refine (Builder_WriteByte _ _ _ _ _ hB (by simp [Lib.byteCells_length, HLen.out]; omega) l0).mono ?_
      rintro e w1 ⟨rfl, hB1, hb1⟩
      have hb1 := hbl.trans hb1
      have l1 := hb1.size
      clear hB
      go_wp2_with fail
      refine (Builder_WriteByte _ _ _ _ _ (.inr hB1) (by simp [Lib.byteCells_length, HLen.out]; omega) l1).mono ?_
      rintro e w2 ⟨rfl, hB2, hb2⟩
      have hb2 := hb1.trans hb2
      rw [byteCells_put16 _ x _ _ hx0 (by omega) (by first | omega | (rw [IntKind.wrap_u8']))] at hB2
      clear hB1
      have hB3 : Lib.IsBuilder 265 5 w.heap.size w.heap.size (Lib.byteCells (putW (l.take (k + 1)))) w2 := by
        rw [take_snoc_int l k (by rw [HL.out]; exact hlt), putW_append, ← HX.out]
        exact .inr (by simpa [putW] using hB2)
      clear hB2
      go_wp2_with fail
      go_roundw
      case rel => exact ⟨k + 1, by omega, by go_num, hB3, hb2⟩
      case measure => simp [intOf]; omega
    · obtain rfl : k = n := by omega
      rw [List.take_of_length_le (by rw [HL.out]; exact Nat.le_refl _)] at hB
      go_wp2_with fail
      refine (Builder_String _ _ _ _ hB l0).mono ?_
      rintro e w1 ⟨rfl, hb1⟩
      have hb1 := hbl.trans hb1
      go_wp2_with fail
      go_ret
      exact ⟨rfl, hb1⟩

theorem Put16 (n : Int) (w : World) (h0 : 0 ≤ n) (h1 : n ≤ 65535) :
    Calls Tryz.prog 157 #[.int .u16 n] w (Ret (.string (S (put16 n))) w) := by
  go_enter Tryz.func157, Tryz.ntmps157
  go_wp2_with fail
  refine (Word _ 1 _ [n] _ (Row.freshN w _ _ _ _ rfl rfl) (by simp; omega) (by omega)).mono ?_
  rintro e w1 ⟨rfl, hb1⟩
  have hb1 := bstep (fresh_below w _) hb1
  go_wp2_with fail
  go_ret
  exact ⟨ret_str (by simp [putW]), hb1⟩

theorem Put32 (n : Int) (w : World) (h0 : 0 ≤ n) (h1 : n ≤ 4294967295) :
    Calls Tryz.prog 196 #[.int .u32 n] w (Ret (.string (S (put32 n))) w) := by
  have q1 : n / 65536 ≤ 65535 := by omega
  have q2 : 0 ≤ n / 65536 := by omega
  have q3 : n % 65536 ≤ 65535 := by omega
  have q4 : 0 ≤ n % 65536 := by omega
  have q5 : IntKind.u16.wrap n = n % 65536 := by rw [IntKind.wrap_u16]
  go_enter Tryz.func196, Tryz.ntmps196
  go_wp2_with fail
  refine (Word _ 2 _ [n / 65536, n % 65536] _ (Row.freshN w _ _ _ _ rfl rfl) (by simp; omega) (by omega)).mono ?_
  rintro e w1 ⟨rfl, hb1⟩
  have hb1 := bstep (fresh_below w _) hb1
  go_wp2_with fail
  go_ret
  exact ⟨ret_str (by simp [putW, put32]), hb1⟩
end Go.Proofs.YtilfcikhipadpaaGreatDoor
end
