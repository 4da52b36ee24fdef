/- Several texts of this claim, one behind the other. -/
import Derived.Test.YtilfcikhipadpaaGreatDoorK27a
import Derived.KernelRfl

section
/- Events: what the document's sums and fields tell of rows. -/
set_option linter.unusedVariables false
namespace Go.Proofs.YtilfcikhipadpaaGreatDoor
open Go.RowKit Go.Lib Rx
variable {A : Amb}
def dholdsE (n id : Nat) (ss : List ByteArray) (b : Bool) (hb : holds (ss.map L) = b := by kernel_rfl) (hs : ∀ s ∈ ss, s.size ≤ 140737488351232 := by decide) (hn : ss.length ≤ 1000 := by decide) : Ev Tryz.prog A :=
  reads n [id] (f := 139) (args := [.slice (some ⟨id, 0, some 1⟩) (ss.map Value.string).length ss.length]) (sn := [(id, (ss.map Value.string, 9, true))]) (v := .bool b) fun ρ W _ h => by
    subst hb
    have h1 := row_of (P := Tryz.prog) (h _ (List.mem_singleton.2 rfl)) (strs_real ss)
    exact r_Holds _ _ _ ss W h1 hs (by rw [List.length_map]; omega)
def dwordE (n id : Nat) (l : List Int) (s : ByteArray) (hb : S (putW l) = s := by kernel_rfl) (hs : ∀ x ∈ l, 0 ≤ x ∧ x ≤ 65535 := by decide) (hn : l.length ≤ 1000 := by decide) : Ev Tryz.prog A :=
  reads n [id] (f := 171) (args := [.slice (some ⟨id, 0, some 1⟩) (ints16 l).length l.length]) (sn := [(id, (ints16 l, 29, true))]) (v := .string s) fun ρ W _ h => by
    subst hb
    have h1 := row_of (P := Tryz.prog) (h _ (List.mem_singleton.2 rfl)) (ints_real l)
    exact r_Word _ _ _ l W h1 hs (by have : (ints16 l).length = l.length := by unfold ints16; rw [List.length_map]
                                     omega)
end Go.Proofs.YtilfcikhipadpaaGreatDoor
end

section
/- All ways: printed (gen/mk.py, gen/ipp.spec.py). -/
set_option linter.unusedVariables false
set_option linter.unusedSimpArgs false
namespace Go.Proofs.YtilfcikhipadpaaGreatDoor
open Go.RowKit Go.Lib Rx
def ip_P1_v (s : ByteArray) (hb : Bool) : Value := (bif (decide ((s.size : Int) < 20)) then (.tuple #[.agg #[.int .u8 0, .int .u16 0, .bool false, .int .u8 0, .int .u8 0, .int .u32 0, .int .u32 0, .string { data := #[] }], .string { data := #[] }, .int .i64 1]) else (bif (at_ (L s) 0 / 16 != 4) then (.tuple #[.agg #[.int .u8 0, .int .u16 0, .bool false, .int .u8 0, .int .u8 0, .int .u32 0, .int .u32 0, .string { data := #[] }], .string { data := #[] }, .int .i64 2]) else (bif (decide (ipOwn (L s) ≥ 20)) then (bif (decide (ipOwn (L s) ≤ ipAll (L s))) then (bif (decide (ipAll (L s) ≤ (s.size : Int))) then (bif (decide (ipAll (L s) ≤ 2048)) then (bif (hb) then (bif (get16 (L s) 6 == 0) then (.tuple #[.agg #[.int .u8 (at_ (L s) 1), .int .u16 (get16 (L s) 4), .bool false, .int .u8 (at_ (L s) 8), .int .u8 (at_ (L s) 9), .int .u32 (get32 (L s) 12), .int .u32 (get32 (L s) 16), .string (s.extract 20 (ipOwn (L s)).toNat)], .string (s.extract (ipOwn (L s)).toNat (ipAll (L s)).toNat), .int .i64 0]) else (bif (get16 (L s) 6 == 16384) then (.tuple #[.agg #[.int .u8 (at_ (L s) 1), .int .u16 (get16 (L s) 4), .bool true, .int .u8 (at_ (L s) 8), .int .u8 (at_ (L s) 9), .int .u32 (get32 (L s) 12), .int .u32 (get32 (L s) 16), .string (s.extract 20 (ipOwn (L s)).toNat)], .string (s.extract (ipOwn (L s)).toNat (ipAll (L s)).toNat), .int .i64 0]) else (.tuple #[.agg #[.int .u8 0, .int .u16 0, .bool false, .int .u8 0, .int .u8 0, .int .u32 0, .int .u32 0, .string { data := #[] }], .string { data := #[] }, .int .i64 5]))) else (.tuple #[.agg #[.int .u8 0, .int .u16 0, .bool false, .int .u8 0, .int .u8 0, .int .u32 0, .int .u32 0, .string { data := #[] }], .string { data := #[] }, .int .i64 4])) else (.tuple #[.agg #[.int .u8 0, .int .u16 0, .bool false, .int .u8 0, .int .u8 0, .int .u32 0, .int .u32 0, .string { data := #[] }], .string { data := #[] }, .int .i64 3])) else (.tuple #[.agg #[.int .u8 0, .int .u16 0, .bool false, .int .u8 0, .int .u8 0, .int .u32 0, .int .u32 0, .string { data := #[] }], .string { data := #[] }, .int .i64 3])) else (.tuple #[.agg #[.int .u8 0, .int .u16 0, .bool false, .int .u8 0, .int .u8 0, .int .u32 0, .int .u32 0, .string { data := #[] }], .string { data := #[] }, .int .i64 3])) else (.tuple #[.agg #[.int .u8 0, .int .u16 0, .bool false, .int .u8 0, .int .u8 0, .int .u32 0, .int .u32 0, .string { data := #[] }], .string { data := #[] }, .int .i64 3]))))
theorem ip_P1 (s : ByteArray) (w : World) (hs : s.size ≤ 140737488351232) (hb : Bool) (hh : holds ([s.extract 0 (ipOwn (L s)).toNat].map L) = hb) : Calls Tryz.prog 74 #[.string s] w (Ret (ip_P1_v s hb) w) := by
  unfold ip_P1_v
  have hm : s.size ≤ maxLen := by unfold maxLen; omega
  have b0 := at_bd (L s) 0
  have e15 : bits .and .u8 (at_ (L s) 0) 15 = at_ (L s) 0 % 16 := and15 b0
  have e16 : IntKind.i64.wrap (at_ (L s) 0 % 16) = at_ (L s) 0 % 16 := wrap64_id (by omega)
  have eow : IntKind.i64.wrap (at_ (L s) 0 % 16 * 4) = ipOwn (L s) := wrap64_id (by omega)
  have g2 := get16_bd (L s) 2
  have eal : IntKind.i64.wrap (get16 (L s) 2) = ipAll (L s) := wrap64_id (by omega)
  have esh : (at_ (L s) 0).fdiv (2 ^ min (Int.toNat 4) IntKind.u8.bits) = at_ (L s) 0 / 16 := shr4 b0
  cases h1 : (decide ((s.size : Int) < 20))
  · have h1q := of_decide_eq_false h1
    let p1 : List (Ev Tryz.prog (Amb.of w)) := [no 6 h1, sx 8 9 .i64 s 0, isI 9 .u8 esh]
    cases h2 : (at_ (L s) 0 / 16 != 4)
    · have h2q := by simpa using h2
      let p2 : List (Ev Tryz.prog (Amb.of w)) := p1 ++ [no 11 h2, sx 17 9 .i64 s 0, isI 18 .u8 e15, isI 19 .i64 e16, isI 20 .i64 eow, does 25 (args := [.string s, .int .i64 2]) fun W _ => Get16 s 2 W hm (by omega), isI 34 .i64 eal]
      cases h3 : (decide (ipOwn (L s) ≥ 20))
      · have h3q := of_decide_eq_false h3
        exact run (args := [.string s]) (p2 ++ [isF 41 h3])
      · have h3q := of_decide_eq_true h3
        let p3 : List (Ev Tryz.prog (Amb.of w)) := p2 ++ [isT 41 h3]
        cases h4 : (decide (ipOwn (L s) ≤ ipAll (L s)))
        · have h4q := of_decide_eq_false h4
          exact run (args := [.string s]) (p3 ++ [isF 46 h4])
        · have h4q := of_decide_eq_true h4
          let p4 : List (Ev Tryz.prog (Amb.of w)) := p3 ++ [isT 46 h4]
          cases h5 : (decide (ipAll (L s) ≤ (s.size : Int)))
          · have h5q := of_decide_eq_false h5
            exact run (args := [.string s]) (p4 ++ [isF 52 h5])
          · have h5q := of_decide_eq_true h5
            let p5 : List (Ev Tryz.prog (Amb.of w)) := p4 ++ [isT 52 h5]
            cases h6 : (decide (ipAll (L s) ≤ 2048))
            · have h6q := of_decide_eq_false h6
              exact run (args := [.string s]) (p5 ++ [nyes 69 h6])
            · have h6q := of_decide_eq_true h6
              let p6 : List (Ev Tryz.prog (Amb.of w)) := p5 ++ [nno 69 h6, sH 72 9 .i64 s (ipOwn (L s)), holdsE 74 1 [s.extract 0 (ipOwn (L s)).toNat] hb hh (by simp [ByteArray.size_extract]; omega) (by simp)]
              cases h7 : (hb)
              · exact run (args := [.string s]) (p6 ++ [nyes 76 h7])
              · let p7 : List (Ev Tryz.prog (Amb.of w)) := p6 ++ [nno 76 h7, sx 78 9 .i64 s 1, does 83 (args := [.string s, .int .i64 4]) fun W _ => Get16 s 4 W hm (by omega), sx 93 9 .i64 s 8, sx 95 9 .i64 s 9, does 100 (args := [.string s, .int .i64 12]) fun W _ => Get32 s 12 W hm (by omega), does 113 (args := [.string s, .int .i64 16]) fun W _ => Get32 s 16 W hm (by omega), sLH 124 9 .i64 .i64 s 20 (ipOwn (L s)), does 132 (args := [.string s, .int .i64 6]) fun W _ => Get16 s 6 W hm (by omega)]
                cases h8 : (get16 (L s) 6 == 0)
                · have h8q := by simpa using h8
                  let p8 : List (Ev Tryz.prog (Amb.of w)) := p7 ++ [no 143 h8]
                  cases h9 : (get16 (L s) 6 == 16384)
                  · have h9q := by simpa using h9
                    exact run (args := [.string s]) (p8 ++ [no 146 h9])
                  · have h9q := by simpa using h9
                    exact run (args := [.string s]) (p8 ++ [yes 146 h9, sLH 153 9 .i64 .i64 s (ipOwn (L s)) (ipAll (L s))])
                · have h8q := by simpa using h8
                  exact run (args := [.string s]) (p7 ++ [yes 143 h8, sLH 148 9 .i64 .i64 s (ipOwn (L s)) (ipAll (L s))])
    · have h2q := by simpa using h2
      exact run (args := [.string s]) (p1 ++ [yes 11 h2])
  · have h1q := of_decide_eq_true h1
    exact run (args := [.string s]) ([yes 6 h1])
def r4_P1_v (s : ByteArray) (hb : Bool) : Value := (bif (decide ((s.size : Int) < 20)) then (.tuple #[.agg #[.int .u8 0, .int .u16 0, .bool false, .int .u8 0, .int .u8 0, .int .u32 0, .int .u32 0, .string { data := #[] }], .string { data := #[] }, .int .i64 1]) else (bif (at_ (L s) 0 / 16 != 4) then (.tuple #[.agg #[.int .u8 0, .int .u16 0, .bool false, .int .u8 0, .int .u8 0, .int .u32 0, .int .u32 0, .string { data := #[] }], .string { data := #[] }, .int .i64 2]) else (bif (decide (ipOwn (L s) < 20)) then (.tuple #[.agg #[.int .u8 0, .int .u16 0, .bool false, .int .u8 0, .int .u8 0, .int .u32 0, .int .u32 0, .string { data := #[] }], .string { data := #[] }, .int .i64 3]) else (bif (decide ((s.size : Int) < ipOwn (L s))) then (.tuple #[.agg #[.int .u8 0, .int .u16 0, .bool false, .int .u8 0, .int .u8 0, .int .u32 0, .int .u32 0, .string { data := #[] }], .string { data := #[] }, .int .i64 3]) else (bif (decide (ipAll (L s) < ipOwn (L s))) then (.tuple #[.agg #[.int .u8 0, .int .u16 0, .bool false, .int .u8 0, .int .u8 0, .int .u32 0, .int .u32 0, .string { data := #[] }], .string { data := #[] }, .int .i64 3]) else (bif (decide (ipAll (L s) > (s.size : Int))) then (.tuple #[.agg #[.int .u8 0, .int .u16 0, .bool false, .int .u8 0, .int .u8 0, .int .u32 0, .int .u32 0, .string { data := #[] }], .string { data := #[] }, .int .i64 3]) else (bif (decide (ipAll (L s) > 2048)) then (.tuple #[.agg #[.int .u8 0, .int .u16 0, .bool false, .int .u8 0, .int .u8 0, .int .u32 0, .int .u32 0, .string { data := #[] }], .string { data := #[] }, .int .i64 3]) else (bif (hb) then (bif (get16 (L s) 6 != 0) then (bif (get16 (L s) 6 != 16384) then (.tuple #[.agg #[.int .u8 0, .int .u16 0, .bool false, .int .u8 0, .int .u8 0, .int .u32 0, .int .u32 0, .string { data := #[] }], .string { data := #[] }, .int .i64 5]) else (.tuple #[.agg #[.int .u8 (at_ (L s) 1), .int .u16 (get16 (L s) 4), .bool (decide (get16 (L s) 6 > 0)), .int .u8 (at_ (L s) 8), .int .u8 (at_ (L s) 9), .int .u32 (get32 (L s) 12), .int .u32 (get32 (L s) 16), .string (s.extract 20 (ipOwn (L s)).toNat)], .string (s.extract (ipOwn (L s)).toNat (ipAll (L s)).toNat), .int .i64 0])) else (.tuple #[.agg #[.int .u8 (at_ (L s) 1), .int .u16 (get16 (L s) 4), .bool (decide (get16 (L s) 6 > 0)), .int .u8 (at_ (L s) 8), .int .u8 (at_ (L s) 9), .int .u32 (get32 (L s) 12), .int .u32 (get32 (L s) 16), .string (s.extract 20 (ipOwn (L s)).toNat)], .string (s.extract (ipOwn (L s)).toNat (ipAll (L s)).toNat), .int .i64 0])) else (.tuple #[.agg #[.int .u8 0, .int .u16 0, .bool false, .int .u8 0, .int .u8 0, .int .u32 0, .int .u32 0, .string { data := #[] }], .string { data := #[] }, .int .i64 4])))))))))
theorem r4_P1 (s : ByteArray) (w : World) (hs : s.size ≤ 140737488351232) (hb : Bool) (hh : holds ([s.extract 0 (ipOwn (L s)).toNat].map L) = hb) : Calls Tryz.prog 81 #[.string s] w (Ret (r4_P1_v s hb) w) := by
  unfold r4_P1_v
  have hm : s.size ≤ maxLen := by unfold maxLen; omega
  have b0 := at_bd (L s) 0
  have e15 : (at_ (L s) 0).tmod 16 = at_ (L s) 0 % 16 := Int.tmod_eq_emod_of_nonneg b0.1
  have e16 : IntKind.i64.wrap (at_ (L s) 0 % 16) = at_ (L s) 0 % 16 := wrap64_id (by omega)
  have eow : IntKind.i64.wrap (at_ (L s) 0 % 16 * 4) = ipOwn (L s) := wrap64_id (by omega)
  have hg : ∀ i, IntKind.i64.wrap (get16 (L s) i) = get16 (L s) i := fun i => wrap64_id (by have := get16_bd (L s) i; omega)
  have esh : IntKind.u8.wrap ((at_ (L s) 0).tdiv 16) = at_ (L s) 0 / 16 := by rw [Int.tdiv_eq_ediv_of_nonneg b0.1]; exact wrap8_id (by omega)
  cases h1 : (decide ((s.size : Int) < 20))
  · have h1q := of_decide_eq_false h1
    let p1 : List (Ev Tryz.prog (Amb.of w)) := [no 6 h1, sx 8 9 .i64 s 0, isI 9 .u8 esh]
    cases h2 : (at_ (L s) 0 / 16 != 4)
    · have h2q := by simpa using h2
      let p2 : List (Ev Tryz.prog (Amb.of w)) := p1 ++ [no 11 h2, sx 13 9 .i64 s 0, isI 14 .u8 e15, isI 15 .i64 e16, isI 16 .i64 eow, does 21 (args := [.string s, .int .i64 2]) fun W _ => r_Get16 s 2 W hm (by omega), isI 28 .i64 (hg 2)]
      cases h3 : (decide (ipOwn (L s) < 20))
      · have h3q := of_decide_eq_false h3
        let p3 : List (Ev Tryz.prog (Amb.of w)) := p2 ++ [isF 35 h3]
        cases h4 : (decide ((s.size : Int) < ipOwn (L s)))
        · have h4q := of_decide_eq_false h4
          let p4 : List (Ev Tryz.prog (Amb.of w)) := p3 ++ [isF 41 h4]
          cases h5 : (decide (ipAll (L s) < ipOwn (L s)))
          · have h5q := of_decide_eq_false h5
            let p5 : List (Ev Tryz.prog (Amb.of w)) := p4 ++ [isF 46 h5]
            cases h6 : (decide (ipAll (L s) > (s.size : Int)))
            · have h6q := of_decide_eq_false h6
              let p6 : List (Ev Tryz.prog (Amb.of w)) := p5 ++ [isF 52 h6]
              cases h7 : (decide (ipAll (L s) > 2048))
              · have h7q := of_decide_eq_false h7
                let p7 : List (Ev Tryz.prog (Amb.of w)) := p6 ++ [no 56 h7, sH 59 9 .i64 s (ipOwn (L s)), dholdsE 61 1 [s.extract 0 (ipOwn (L s)).toNat] hb hh (by simp [ByteArray.size_extract]; omega) (by simp)]
                cases h8 : (hb)
                · exact run (args := [.string s]) (p7 ++ [nyes 63 h8])
                · let p8 : List (Ev Tryz.prog (Amb.of w)) := p7 ++ [nno 63 h8, does 68 (args := [.string s, .int .i64 6]) fun W _ => r_Get16 s 6 W hm (by omega), isI 75 .i64 (hg 6)]
                  cases h9 : (get16 (L s) 6 != 0)
                  · have h9q := by simpa using h9
                    exact run (args := [.string s]) (p8 ++ [isF 81 h9, sx 87 9 .i64 s 1, does 92 (args := [.string s, .int .i64 4]) fun W _ => r_Get16 s 4 W hm (by omega), isI 99 .i64 (hg 4), isI 102 .u16 (wrap16_id (get16_bd (L s) 4)), sx 106 9 .i64 s 8, sx 108 9 .i64 s 9, does 113 (args := [.string s, .int .i64 12]) fun W _ => r_Get32 s 12 W hm (by omega), does 126 (args := [.string s, .int .i64 16]) fun W _ => r_Get32 s 16 W hm (by omega), sLH 137 9 .i64 .i64 s 20 (ipOwn (L s)), sLH 145 9 .i64 .i64 s (ipOwn (L s)) (ipAll (L s))])
                  · have h9q := by simpa using h9
                    let p9 : List (Ev Tryz.prog (Amb.of w)) := p8 ++ [isT 81 h9]
                    cases h10 : (get16 (L s) 6 != 16384)
                    · have h10q := by simpa using h10
                      exact run (args := [.string s]) (p9 ++ [no 85 h10, sx 87 9 .i64 s 1, does 92 (args := [.string s, .int .i64 4]) fun W _ => r_Get16 s 4 W hm (by omega), isI 99 .i64 (hg 4), isI 102 .u16 (wrap16_id (get16_bd (L s) 4)), sx 106 9 .i64 s 8, sx 108 9 .i64 s 9, does 113 (args := [.string s, .int .i64 12]) fun W _ => r_Get32 s 12 W hm (by omega), does 126 (args := [.string s, .int .i64 16]) fun W _ => r_Get32 s 16 W hm (by omega), sLH 137 9 .i64 .i64 s 20 (ipOwn (L s)), sLH 145 9 .i64 .i64 s (ipOwn (L s)) (ipAll (L s))])
                    · have h10q := by simpa using h10
                      exact run (args := [.string s]) (p9 ++ [yes 85 h10])
              · have h7q := of_decide_eq_true h7
                exact run (args := [.string s]) (p6 ++ [yes 56 h7])
            · have h6q := of_decide_eq_true h6
              exact run (args := [.string s]) (p5 ++ [isT 52 h6])
          · have h5q := of_decide_eq_true h5
            exact run (args := [.string s]) (p4 ++ [isT 46 h5])
        · have h4q := of_decide_eq_true h4
          exact run (args := [.string s]) (p3 ++ [isT 41 h4])
      · have h3q := of_decide_eq_true h3
        exact run (args := [.string s]) (p2 ++ [isT 35 h3])
    · have h2q := by simpa using h2
      exact run (args := [.string s]) (p1 ++ [yes 11 h2])
  · have h1q := of_decide_eq_true h1
    exact run (args := [.string s]) ([yes 6 h1])
theorem ip_v (s : ByteArray) : ip_P1_v s (holds [(L s).take (ipOwn (L s)).toNat]) = .tuple #[.agg (hdRes s).cells, .string (ipRest s), .int .i64 (ipWhy s)] ∧ r4_P1_v s (holds [(L s).take (ipOwn (L s)).toNat]) = .tuple #[.agg (hdRes s).cells, .string (ipRest s), .int .i64 (ipWhy s)] := by
  have g6 := get16_bd (L s) 6
  have b0 := at_bd (L s) 0
  unfold ip_P1_v r4_P1_v hdRes ipRest ipWhy ipFits
  by_cases h1 : s.size < 20
  · have q1 : (s.size : Int) < 20 := by omega
    simp [h1, q1, Hd.cells, hdNone]
  have q1 : ¬ (s.size : Int) < 20 := by omega
  by_cases h2 : at_ (L s) 0 / 16 = 4
  · by_cases h3 : 20 ≤ ipOwn (L s)
    · by_cases h4 : ipOwn (L s) ≤ ipAll (L s)
      · by_cases h5 : ipAll (L s) ≤ s.size
        · by_cases h6 : ipAll (L s) ≤ 2048
          · have a1 : ¬ ipOwn (L s) < 20 := by omega
            have a2 : ¬ (s.size : Int) < ipOwn (L s) := by omega
            have a3 : ¬ ipAll (L s) < ipOwn (L s) := by omega
            have a4 : ¬ ipAll (L s) > (s.size : Int) := by omega
            have a5 : ¬ ipAll (L s) > 2048 := by omega
            cases hh : holds [(L s).take (ipOwn (L s)).toNat]
            · simp [h1, q1, h2, h3, h4, h5, h6, hh, a1, a2, a3, a4, a5, Hd.cells, hdNone]
            · by_cases h7 : get16 (L s) 6 = 0
              · simp [h1, q1, h2, h3, h4, h5, h6, hh, a1, a2, a3, a4, a5, h7, Hd.cells, hdOf]
              · by_cases h8 : get16 (L s) 6 = 16384
                · simp [h1, q1, h2, h3, h4, h5, h6, hh, a1, a2, a3, a4, a5, h8, Hd.cells, hdOf]
                · have b7 : (get16 (L s) 6 == 0) = false := by simpa using h7
                  have b8 : (get16 (L s) 6 == 16384) = false := by simpa using h8
                  have c7 : (get16 (L s) 6 != 0) = true := by simpa using h7
                  have c8 : (get16 (L s) 6 != 16384) = true := by simpa using h8
                  simp [h1, q1, h2, h3, h4, h5, h6, hh, a1, a2, a3, a4, a5, h7, h8, b7, b8, c7, c8, Hd.cells, hdNone]
          · have a5 : ipAll (L s) > 2048 := by omega
            simp [h1, q1, h2, h3, h4, h5, h6, a5, Hd.cells, hdNone]
        · have a4 : ipAll (L s) > (s.size : Int) := by omega
          simp [h1, q1, h2, h3, h4, h5, a4, Hd.cells, hdNone]
      · have a3 : ipAll (L s) < ipOwn (L s) := by omega
        simp [h1, q1, h2, h3, h4, a3, Hd.cells, hdNone]
    · have a1 : ipOwn (L s) < 20 := by omega
      simp [h1, q1, h2, h3, a1, Hd.cells, hdNone]
  · have b2 : (at_ (L s) 0 / 16 != 4) = true := by simpa using h2
    simp [h1, q1, h2, b2, Hd.cells, hdNone]
theorem ip_Parse (s : ByteArray) (w : World) (hs : s.size ≤ 140737488351232) : Calls Tryz.prog 74 #[.string s] w (Ret (.tuple #[.agg (hdRes s).cells, .string (ipRest s), .int .i64 (ipWhy s)]) w) := by
  rw [← (ip_v s).1]
  exact ip_P1 s w hs _ (by rw [List.map_cons, List.map_nil, L_to])
theorem r4_Parse (s : ByteArray) (w : World) (hs : s.size ≤ 140737488351232) : Calls Tryz.prog 81 #[.string s] w (Ret (.tuple #[.agg (hdRes s).cells, .string (ipRest s), .int .i64 (ipWhy s)]) w) := by
  rw [← (ip_v s).2]
  exact r4_P1 s w hs _ (by rw [List.map_cons, List.map_nil, L_to])
end Go.Proofs.YtilfcikhipadpaaGreatDoor
end

section
/- All ways: printed (gen/mk.py, gen/tcpp.spec.py). -/
set_option linter.unusedVariables false
set_option linter.unusedSimpArgs false
namespace Go.Proofs.YtilfcikhipadpaaGreatDoor
open Go.RowKit Go.Lib Rx
def t_P1_v (s : ByteArray) : Value := (bif (decide ((s.size : Int) < 20)) then (.tuple #[.agg #[.int .u16 0, .int .u16 0, .int .u32 0, .int .u32 0, .int .u8 0, .int .u8 0, .int .u16 0, .int .u16 0, .int .u16 0, .string { data := #[] }], .string { data := #[] }, .bool false]) else (bif (decide (tcpOwn (L s) < 20)) then (.tuple #[.agg #[.int .u16 0, .int .u16 0, .int .u32 0, .int .u32 0, .int .u8 0, .int .u8 0, .int .u16 0, .int .u16 0, .int .u16 0, .string { data := #[] }], .string { data := #[] }, .bool false]) else (bif (decide (tcpOwn (L s) > (s.size : Int))) then (.tuple #[.agg #[.int .u16 0, .int .u16 0, .int .u32 0, .int .u32 0, .int .u8 0, .int .u8 0, .int .u16 0, .int .u16 0, .int .u16 0, .string { data := #[] }], .string { data := #[] }, .bool false]) else (.tuple #[.agg #[.int .u16 (get16 (L s) 0), .int .u16 (get16 (L s) 2), .int .u32 (get32 (L s) 4), .int .u32 (get32 (L s) 8), .int .u8 (at_ (L s) 12 % 16), .int .u8 (at_ (L s) 13), .int .u16 (get16 (L s) 14), .int .u16 (get16 (L s) 16), .int .u16 (get16 (L s) 18), .string (s.extract 20 (tcpOwn (L s)).toNat)], .string (s.extract (tcpOwn (L s)).toNat s.size), .bool true]))))
theorem t_P1 (s : ByteArray) (w : World) (hs : s.size ≤ 140737488351232) : Calls Tryz.prog 179 #[.string s] w (Ret (t_P1_v s) w) := by
  unfold t_P1_v
  have hm : s.size ≤ maxLen := by unfold maxLen; omega
  have b0 := at_bd (L s) 12
  have e12 : (at_ (L s) 12).fdiv (2 ^ min (Int.toNat 4) IntKind.u8.bits) = at_ (L s) 12 / 16 := shr4 b0
  have e13 : IntKind.i64.wrap (at_ (L s) 12 / 16) = at_ (L s) 12 / 16 := wrap64_id (by omega)
  have eow : IntKind.i64.wrap (at_ (L s) 12 / 16 * 4) = tcpOwn (L s) := wrap64_id (by omega)
  have eo2 : IntKind.i64.wrap (at_ (L s) 12 / 16 * 2 ^ min (Int.toNat 2) IntKind.i64.bits) = tcpOwn (L s) := eow
  have e15 : bits .and .u8 (at_ (L s) 12) 15 = at_ (L s) 12 % 16 := and15 b0
  have e16 : (at_ (L s) 12).tmod 16 = at_ (L s) 12 % 16 := Int.tmod_eq_emod_of_nonneg b0.1
  have e17 : IntKind.u8.wrap ((at_ (L s) 12).tdiv 16) = at_ (L s) 12 / 16 := by rw [Int.tdiv_eq_ediv_of_nonneg b0.1]; exact wrap8_id (by omega)
  cases h1 : (decide ((s.size : Int) < 20))
  · have h1q := of_decide_eq_false h1
    let p1 : List (Ev Tryz.prog (Amb.of w)) := [no 6 h1, sx 8 9 .i64 s 12, isI 9 .u8 e12, isI 10 .i64 e13, isI 11 .i64 eo2]
    cases h2 : (decide (tcpOwn (L s) < 20))
    · have h2q := of_decide_eq_false h2
      let p2 : List (Ev Tryz.prog (Amb.of w)) := p1 ++ [isF 15 h2]
      cases h3 : (decide (tcpOwn (L s) > (s.size : Int)))
      · have h3q := of_decide_eq_false h3
        exact run (args := [.string s]) (p2 ++ [no 21 h3, sx 23 9 .i64 s 12, isI 24 .u8 e15, sx 26 9 .i64 s 13, sLH 29 9 .i64 .i64 s 20 (tcpOwn (L s)), does 53 (args := [.string s, .int .i64 0]) fun W _ => Get16 s 0 W hm (by omega), does 74 (args := [.string s, .int .i64 2]) fun W _ => Get16 s 2 W hm (by omega), does 86 (args := [.string s, .int .i64 4]) fun W _ => Get32 s 4 W hm (by omega), does 93 (args := [.string s, .int .i64 8]) fun W _ => Get32 s 8 W hm (by omega), does 120 (args := [.string s, .int .i64 14]) fun W _ => Get16 s 14 W hm (by omega), does 141 (args := [.string s, .int .i64 16]) fun W _ => Get16 s 16 W hm (by omega), does 162 (args := [.string s, .int .i64 18]) fun W _ => Get16 s 18 W hm (by omega), sL 176 9 .i64 s (tcpOwn (L s))])
      · have h3q := of_decide_eq_true h3
        exact run (args := [.string s]) (p2 ++ [yes 21 h3])
    · have h2q := of_decide_eq_true h2
      exact run (args := [.string s]) (p1 ++ [isT 15 h2])
  · have h1q := of_decide_eq_true h1
    exact run (args := [.string s]) ([yes 6 h1])
def r6_P1_v (s : ByteArray) : Value := (bif (decide ((s.size : Int) < 20)) then (.tuple #[.agg #[.int .u16 0, .int .u16 0, .int .u32 0, .int .u32 0, .int .u8 0, .int .u8 0, .int .u16 0, .int .u16 0, .int .u16 0, .string { data := #[] }], .string { data := #[] }, .bool false]) else (bif (decide (tcpOwn (L s) < 20)) then (.tuple #[.agg #[.int .u16 0, .int .u16 0, .int .u32 0, .int .u32 0, .int .u8 0, .int .u8 0, .int .u16 0, .int .u16 0, .int .u16 0, .string { data := #[] }], .string { data := #[] }, .bool false]) else (bif (decide (tcpOwn (L s) > (s.size : Int))) then (.tuple #[.agg #[.int .u16 0, .int .u16 0, .int .u32 0, .int .u32 0, .int .u8 0, .int .u8 0, .int .u16 0, .int .u16 0, .int .u16 0, .string { data := #[] }], .string { data := #[] }, .bool false]) else (.tuple #[.agg #[.int .u16 (get16 (L s) 0), .int .u16 (get16 (L s) 2), .int .u32 (get32 (L s) 4), .int .u32 (get32 (L s) 8), .int .u8 (at_ (L s) 12 % 16), .int .u8 (at_ (L s) 13), .int .u16 (get16 (L s) 14), .int .u16 (get16 (L s) 16), .int .u16 (get16 (L s) 18), .string (s.extract 20 (tcpOwn (L s)).toNat)], .string (s.extract (tcpOwn (L s)).toNat s.size), .bool true]))))
theorem r6_P1 (s : ByteArray) (w : World) (hs : s.size ≤ 140737488351232) : Calls Tryz.prog 82 #[.string s] w (Ret (r6_P1_v s) w) := by
  unfold r6_P1_v
  have hm : s.size ≤ maxLen := by unfold maxLen; omega
  have b0 := at_bd (L s) 12
  have e12 : (at_ (L s) 12).fdiv (2 ^ min (Int.toNat 4) IntKind.u8.bits) = at_ (L s) 12 / 16 := shr4 b0
  have e13 : IntKind.i64.wrap (at_ (L s) 12 / 16) = at_ (L s) 12 / 16 := wrap64_id (by omega)
  have eow : IntKind.i64.wrap (at_ (L s) 12 / 16 * 4) = tcpOwn (L s) := wrap64_id (by omega)
  have eo2 : IntKind.i64.wrap (at_ (L s) 12 / 16 * 2 ^ min (Int.toNat 2) IntKind.i64.bits) = tcpOwn (L s) := eow
  have e15 : bits .and .u8 (at_ (L s) 12) 15 = at_ (L s) 12 % 16 := and15 b0
  have e16 : (at_ (L s) 12).tmod 16 = at_ (L s) 12 % 16 := Int.tmod_eq_emod_of_nonneg b0.1
  have e17 : IntKind.u8.wrap ((at_ (L s) 12).tdiv 16) = at_ (L s) 12 / 16 := by rw [Int.tdiv_eq_ediv_of_nonneg b0.1]; exact wrap8_id (by omega)
  cases h1 : (decide ((s.size : Int) < 20))
  · have h1q := of_decide_eq_false h1
    let p1 : List (Ev Tryz.prog (Amb.of w)) := [no 6 h1, sx 8 9 .i64 s 12, isI 9 .u8 e17, isI 10 .i64 e13, isI 11 .i64 eow]
    cases h2 : (decide (tcpOwn (L s) < 20))
    · have h2q := of_decide_eq_false h2
      let p2 : List (Ev Tryz.prog (Amb.of w)) := p1 ++ [isF 15 h2]
      cases h3 : (decide (tcpOwn (L s) > (s.size : Int)))
      · have h3q := of_decide_eq_false h3
        exact run (args := [.string s]) (p2 ++ [no 21 h3, does 26 (args := [.string s, .int .i64 0]) fun W _ => r_Get16 s 0 W hm (by omega), does 39 (args := [.string s, .int .i64 2]) fun W _ => r_Get16 s 2 W hm (by omega), does 52 (args := [.string s, .int .i64 4]) fun W _ => r_Get32 s 4 W hm (by omega), does 65 (args := [.string s, .int .i64 8]) fun W _ => r_Get32 s 8 W hm (by omega), sx 75 9 .i64 s 12, isI 76 .u8 e16, sx 78 9 .i64 s 13, does 83 (args := [.string s, .int .i64 14]) fun W _ => r_Get16 s 14 W hm (by omega), does 96 (args := [.string s, .int .i64 16]) fun W _ => r_Get16 s 16 W hm (by omega), does 109 (args := [.string s, .int .i64 18]) fun W _ => r_Get16 s 18 W hm (by omega), sLH 120 9 .i64 .i64 s 20 (tcpOwn (L s)), sL 127 9 .i64 s (tcpOwn (L s))])
      · have h3q := of_decide_eq_true h3
        exact run (args := [.string s]) (p2 ++ [yes 21 h3])
    · have h2q := of_decide_eq_true h2
      exact run (args := [.string s]) (p1 ++ [isT 15 h2])
  · have h1q := of_decide_eq_true h1
    exact run (args := [.string s]) ([yes 6 h1])
theorem tcp_v (s : ByteArray) : t_P1_v s = .tuple #[.agg (segRes s).cells, .string (segRest s), .bool (tcpIs s)] ∧ r6_P1_v s = .tuple #[.agg (segRes s).cells, .string (segRest s), .bool (tcpIs s)] := by
  unfold t_P1_v r6_P1_v segRes segRest tcpIs
  by_cases h1 : s.size < 20
  · have q1 : (s.size : Int) < 20 := by omega
    have q2 : ¬ 20 ≤ s.size := by omega
    simp [q1, q2, Seg.cells, segNone]
  have q1 : ¬ (s.size : Int) < 20 := by omega
  have q2 : 20 ≤ s.size := by omega
  by_cases h2 : tcpOwn (L s) < 20
  · have q3 : ¬ 20 ≤ tcpOwn (L s) := by omega
    simp [q1, q2, q3, h2, Seg.cells, segNone]
  have q3 : 20 ≤ tcpOwn (L s) := by omega
  by_cases h3 : tcpOwn (L s) ≤ s.size
  · have q4 : ¬ tcpOwn (L s) > (s.size : Int) := by omega
    simp [q1, q2, q3, h2, h3, q4, Seg.cells, segOf]
  · have q4 : tcpOwn (L s) > (s.size : Int) := by omega
    simp [q1, q2, q3, h2, h3, q4, Seg.cells, segNone]
theorem t_Parse (s : ByteArray) (w : World) (hs : s.size ≤ 140737488351232) : Calls Tryz.prog 179 #[.string s] w (Ret (.tuple #[.agg (segRes s).cells, .string (segRest s), .bool (tcpIs s)]) w) := by
  rw [← (tcp_v s).1]
  exact t_P1 s w hs
theorem r6_Parse (s : ByteArray) (w : World) (hs : s.size ≤ 140737488351232) : Calls Tryz.prog 82 #[.string s] w (Ret (.tuple #[.agg (segRes s).cells, .string (segRest s), .bool (tcpIs s)]) w) := by
  rw [← (tcp_v s).2]
  exact r6_P1 s w hs
end Go.Proofs.YtilfcikhipadpaaGreatDoor
end

section
/- icmp over this program: Parse of what is one. -/
set_option linter.unusedVariables false
namespace Go.Proofs.YtilfcikhipadpaaGreatDoor
open Go.RowKit
attribute [local go_sem] Oper.semAt_some

set_option maxRecDepth 100000 in
set_option maxHeartbeats 4000000 in
theorem i_Parse_yes (s : ByteArray) (w : World) (hs : s.size ≤ 140737488351232) (h : 8 ≤ s.size) :
    Calls Tryz.prog 136 #[.string s] w (Ret (.tuple #[.agg #[.int .u8 (msgOf s).t, .int .u8 (msgOf s).c, .int .u16 (msgOf s).n, .string (msgOf s).r, .string (msgOf s).d], .bool true]) w) := by
  have c1 := fun w => Get16 s 2 w (reach_max hs) (by omega)
  have hh : has s.size 2 2 = true := has_true (by omega) (by omega)
  have hn : get16 (L s) 2 = (msgOf s).n := by rw [show (2 : Int) = ((2 : Nat) : Int) from rfl, get16_nat (by rw [L_length]; omega)]; rfl
  rw [hh, hn] at c1
  have e0 : (((s[0]'(by omega)).toNat : Nat) : Int) = (msgOf s).t := by rw [getElem_L s 0 (by omega)]; rfl
  have e1 : (((s[1]'(by omega)).toNat : Nat) : Int) = (msgOf s).c := by rw [getElem_L s 1 (by omega)]; rfl
  have e2 : s.extract 4 8 = (msgOf s).r := rfl
  have e3 : s.extract 8 s.size = (msgOf s).d := rfl
  obtain ⟨m, hm⟩ : ∃ m, m = msgOf s := ⟨_, rfl⟩
  rw [← hm] at c1 e0 e1 e2 e3 ⊢
  have q2 : ¬ (s.size : Int) < 8 := by omega
  have i1 : (4 : Int) ≤ (s.size : Int) := by omega
  have i2 : (8 : Int) ≤ (s.size : Int) := by omega
  have i3 : (1 : Int) < (s.size : Int) := by omega
  have i4 : (0 : Int) < (s.size : Int) := by omega
  have i5 : 0 < s.size := by omega
  have i6 : 1 < s.size := by omega
  have C1 := hide c1; have E0 := hide e0; have E1 := hide e1; have E2 := hide e2; have E3 := hide e3
  clear c1 e0 e1 e2 e3 hh hn hm
  go_enter Tryz.func136, Tryz.ntmps136
  have d0 := Cells.new w #[.int .u8 0, .int .u8 0, .int .u16 0, .string { data := #[] }, .string { data := #[] }] 166
  go_wp2_with fail
  (with_reducible refine (C1.out _).mono ?_)
  rintro e w1 ⟨rfl, b1⟩
  replace d0 := Cells.up d0 (by (repeat' (first | with_reducible exact Below.refl _ _ | with_reducible refine bstep ?_ (fresh_below _ _) | with_reducible refine Below.drew ?_))) b1
  replace b1 : Below w.heap.size w w1 := by (refine bstep ?_ b1); (repeat' (first | with_reducible exact Below.refl _ _ | with_reducible refine Below.setCell ?_ (by first | exact Nat.le_refl _ | (dsimp only; omega)) _ | with_reducible refine bstep ?_ (fresh_below _ _) | with_reducible refine Below.drew ?_))
  have z1 : w.heap.size ≤ w1.heap.size := b1.size
  go_wp2_with fail
  have d1 : Cells w1.drew w.heap.size #[.int .u8 0, .int .u8 0, .int .u16 0, .string { data := #[] }, .string { data := #[] }] 166 := d0
  have b2 := b1.drew
  go_still_tail 10, (by kernel_rfl)
  change wpList _ _ _ _ _ w1.drew
  generalize w1.drew = w2 at *
  obtain ⟨xd1_0, xd1_1, xd1_2, xd1_3, xd1_4⟩ := d1.x5
  obtain ⟨yd1_0, yd1_1, yd1_2, yd1_3, yd1_4⟩ := d1.y5
  go_wp2
  (try simp only [Exit.inBlock, Exit.then]); refine bodyPost_ret (by simp [results, Tryz.results136, go_sem, *]; try rfl) rfl ?_
  exact ⟨by rw [← E0.out, ← E1.out, ← E2.out, ← E3.out], (by (repeat' (first | exact b2 | with_reducible exact Below.refl _ _ | with_reducible refine Below.setCell ?_ (by first | exact Nat.le_refl _ | (dsimp only; omega)) _ | with_reducible refine bstep ?_ bq0 | with_reducible refine bstep ?_ bq1 | with_reducible refine bstep ?_ bq2 | with_reducible refine bstep ?_ bq3 | with_reducible refine bstep ?_ bq4 | with_reducible refine bstep ?_ bq5 | with_reducible refine bstep ?_ (fresh_below _ _) | with_reducible refine Below.drew ?_)))⟩

end Go.Proofs.YtilfcikhipadpaaGreatDoor
end
