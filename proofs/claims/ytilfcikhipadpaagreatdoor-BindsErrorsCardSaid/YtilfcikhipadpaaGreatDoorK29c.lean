/- Several texts of this claim, one behind the other. -/
import Derived.KernelRfl
import Derived.Test.YtilfcikhipadpaaGreatDoorK28c

section
/- Events: sums, words, parts of texts, where their texts are known. -/
set_option linter.unusedVariables false
namespace Go.Proofs.YtilfcikhipadpaaGreatDoor
open Go.RowKit Go.Lib
namespace Rx
variable {A : Amb}

theorem row_of {P : Program} {ρ : Nm} {W : World} {b : Nat} {vs : List Value} {T : TypeId} {s κ : Nat} {r : Bool} (h : Lies ρ W b vs T s κ r) (hr : vs.all real0 = true) : Row W W.heap.size (some ⟨b, 0, none⟩) vs.length vs :=
  ⟨rfl, fun _ => ⟨b, 0, rfl, h.lt, fun j u hu => by
    have := h.cell hu
    rw [Nat.zero_add, this, ren0_real (List.all_eq_true.1 hr u (List.mem_of_getElem? hu))]⟩⟩
theorem strs_real (ss : List ByteArray) : (ss.map Value.string).all real0 = true := by
  induction ss with
  | nil => rfl
  | cons s l ih => exact ih
theorem ints_real (l : List Int) : (ints16 l).all real0 = true := by
  induction l with
  | nil => rfl
  | cons s l ih => exact ih
/-- whether texts hold -/
def holdsE (n id : Nat) (ss : List ByteArray) (b : Bool) (hb : holds (ss.map L) = b := by kernel_rfl) (hs : ∀ s ∈ ss, s.size ≤ 140737488351232 := by decide) (hn : ss.length ≤ 1000 := by decide) : Ev Tryz.prog A :=
  reads n [id] (f := 123) (args := [.slice (some ⟨id, 0, some 1⟩) (ss.map Value.string).length ss.length]) (sn := [(id, (ss.map Value.string, 9, true))]) (v := .bool b) fun ρ W _ h => by
    subst hb
    have h1 := row_of (P := Tryz.prog) (h _ (List.mem_singleton.2 rfl)) (strs_real ss)
    exact Holds _ _ _ ss W h1 hs (by rw [List.length_map]; omega)
/-- the words of a row -/
def wordE (n id : Nat) (l : List Int) (s : ByteArray) (hb : S (putW l) = s := by kernel_rfl) (hs : ∀ x ∈ l, 0 ≤ x ∧ x ≤ 65535 := by decide) (hn : l.length ≤ 1000 := by decide) : Ev Tryz.prog A :=
  reads n [id] (f := 111) (args := [.slice (some ⟨id, 0, some 1⟩) (ints16 l).length l.length]) (sn := [(id, (ints16 l, 29, true))]) (v := .string s) fun ρ W _ h => by
    subst hb
    have h1 := row_of (P := Tryz.prog) (h _ (List.mem_singleton.2 rfl)) (ints_real l)
    exact Word _ _ _ l W h1 hs (by have : (ints16 l).length = l.length := by unfold ints16; rw [List.length_map]
                                   omega)
end Rx
end Go.Proofs.YtilfcikhipadpaaGreatDoor
end

section
/- Events: what the document's sums and fields tell of rows. -/
set_option linter.unusedVariables false
namespace Go.Proofs.YtilfcikhipadpaaGreatDoor
open Go.RowKit Go.Lib Rx
variable {A : Amb}
end Go.Proofs.YtilfcikhipadpaaGreatDoor
end

section
/- All ways: printed (gen/mk.py, gen/ipp.spec.py). -/
set_option linter.unusedVariables false
set_option linter.unusedSimpArgs false
namespace Go.Proofs.YtilfcikhipadpaaGreatDoor
open Go.RowKit Go.Lib Rx
def ip_P1_v (s : ByteArray) (hb : Bool) : Value := (bif (decide ((s.size : Int) < 20)) then (.tuple #[.agg #[.int .u8 0, .int .u16 0, .bool false, .int .u8 0, .int .u8 0, .int .u32 0, .int .u32 0, .string { data := #[] }], .string { data := #[] }, .int .i64 1]) else (bif (at_ (L s) 0 / 16 != 4) then (.tuple #[.agg #[.int .u8 0, .int .u16 0, .bool false, .int .u8 0, .int .u8 0, .int .u32 0, .int .u32 0, .string { data := #[] }], .string { data := #[] }, .int .i64 2]) else (bif (decide (ipOwn (L s) ≥ 20)) then (bif (decide (ipOwn (L s) ≤ ipAll (L s))) then (bif (decide (ipAll (L s) ≤ (s.size : Int))) then (bif (decide (ipAll (L s) ≤ 2048)) then (bif (hb) then (bif (get16 (L s) 6 == 0) then (.tuple #[.agg #[.int .u8 (at_ (L s) 1), .int .u16 (get16 (L s) 4), .bool false, .int .u8 (at_ (L s) 8), .int .u8 (at_ (L s) 9), .int .u32 (get32 (L s) 12), .int .u32 (get32 (L s) 16), .string (s.extract 20 (ipOwn (L s)).toNat)], .string (s.extract (ipOwn (L s)).toNat (ipAll (L s)).toNat), .int .i64 0]) else (bif (get16 (L s) 6 == 16384) then (.tuple #[.agg #[.int .u8 (at_ (L s) 1), .int .u16 (get16 (L s) 4), .bool true, .int .u8 (at_ (L s) 8), .int .u8 (at_ (L s) 9), .int .u32 (get32 (L s) 12), .int .u32 (get32 (L s) 16), .string (s.extract 20 (ipOwn (L s)).toNat)], .string (s.extract (ipOwn (L s)).toNat (ipAll (L s)).toNat), .int .i64 0]) else (.tuple #[.agg #[.int .u8 0, .int .u16 0, .bool false, .int .u8 0, .int .u8 0, .int .u32 0, .int .u32 0, .string { data := #[] }], .string { data := #[] }, .int .i64 5]))) else (.tuple #[.agg #[.int .u8 0, .int .u16 0, .bool false, .int .u8 0, .int .u8 0, .int .u32 0, .int .u32 0, .string { data := #[] }], .string { data := #[] }, .int .i64 4])) else (.tuple #[.agg #[.int .u8 0, .int .u16 0, .bool false, .int .u8 0, .int .u8 0, .int .u32 0, .int .u32 0, .string { data := #[] }], .string { data := #[] }, .int .i64 3])) else (.tuple #[.agg #[.int .u8 0, .int .u16 0, .bool false, .int .u8 0, .int .u8 0, .int .u32 0, .int .u32 0, .string { data := #[] }], .string { data := #[] }, .int .i64 3])) else (.tuple #[.agg #[.int .u8 0, .int .u16 0, .bool false, .int .u8 0, .int .u8 0, .int .u32 0, .int .u32 0, .string { data := #[] }], .string { data := #[] }, .int .i64 3])) else (.tuple #[.agg #[.int .u8 0, .int .u16 0, .bool false, .int .u8 0, .int .u8 0, .int .u32 0, .int .u32 0, .string { data := #[] }], .string { data := #[] }, .int .i64 3]))))
theorem ip_P1 (s : ByteArray) (w : World) (hs : s.size ≤ 140737488351232) (hb : Bool) (hh : holds ([s.extract 0 (ipOwn (L s)).toNat].map L) = hb) : Calls Tryz.prog 74 #[.string s] w (Ret (ip_P1_v s hb) w) := by
  unfold ip_P1_v
  have hm : s.size ≤ maxLen := by unfold maxLen; omega
  have b0 := at_bd (L s) 0
  have e15 : bits .and .u8 (at_ (L s) 0) 15 = at_ (L s) 0 % 16 := and15 b0
  have e16 : IntKind.i64.wrap (at_ (L s) 0 % 16) = at_ (L s) 0 % 16 := wrap64_id (by omega)
  have eow : IntKind.i64.wrap (at_ (L s) 0 % 16 * 4) = ipOwn (L s) := wrap64_id (by omega)
  have g2 := get16_bd (L s) 2
  have eal : IntKind.i64.wrap (get16 (L s) 2) = ipAll (L s) := wrap64_id (by omega)
  have esh : (at_ (L s) 0).fdiv (2 ^ min (Int.toNat 4) IntKind.u8.bits) = at_ (L s) 0 / 16 := shr4 b0
  cases h1 : (decide ((s.size : Int) < 20))
  · have h1q := of_decide_eq_false h1
    let p1 : List (Ev Tryz.prog (Amb.of w)) := [no 6 h1, sx 8 9 .i64 s 0, isI 9 .u8 esh]
    cases h2 : (at_ (L s) 0 / 16 != 4)
    · have h2q := by simpa using h2
      let p2 : List (Ev Tryz.prog (Amb.of w)) := p1 ++ [no 11 h2, sx 17 9 .i64 s 0, isI 18 .u8 e15, isI 19 .i64 e16, isI 20 .i64 eow, does 25 (args := [.string s, .int .i64 2]) fun W _ => Get16 s 2 W hm (by omega), isI 34 .i64 eal]
      cases h3 : (decide (ipOwn (L s) ≥ 20))
      · have h3q := of_decide_eq_false h3
        exact run (args := [.string s]) (p2 ++ [isF 41 h3])
      · have h3q := of_decide_eq_true h3
        let p3 : List (Ev Tryz.prog (Amb.of w)) := p2 ++ [isT 41 h3]
        cases h4 : (decide (ipOwn (L s) ≤ ipAll (L s)))
        · have h4q := of_decide_eq_false h4
          exact run (args := [.string s]) (p3 ++ [isF 46 h4])
        · have h4q := of_decide_eq_true h4
          let p4 : List (Ev Tryz.prog (Amb.of w)) := p3 ++ [isT 46 h4]
          cases h5 : (decide (ipAll (L s) ≤ (s.size : Int)))
          · have h5q := of_decide_eq_false h5
            exact run (args := [.string s]) (p4 ++ [isF 52 h5])
          · have h5q := of_decide_eq_true h5
            let p5 : List (Ev Tryz.prog (Amb.of w)) := p4 ++ [isT 52 h5]
            cases h6 : (decide (ipAll (L s) ≤ 2048))
            · have h6q := of_decide_eq_false h6
              exact run (args := [.string s]) (p5 ++ [nyes 69 h6])
            · have h6q := of_decide_eq_true h6
              let p6 : List (Ev Tryz.prog (Amb.of w)) := p5 ++ [nno 69 h6, sH 72 9 .i64 s (ipOwn (L s)), holdsE 74 1 [s.extract 0 (ipOwn (L s)).toNat] hb hh (by simp [ByteArray.size_extract]; omega) (by simp)]
              cases h7 : (hb)
              · exact run (args := [.string s]) (p6 ++ [nyes 76 h7])
              · let p7 : List (Ev Tryz.prog (Amb.of w)) := p6 ++ [nno 76 h7, sx 78 9 .i64 s 1, does 83 (args := [.string s, .int .i64 4]) fun W _ => Get16 s 4 W hm (by omega), sx 93 9 .i64 s 8, sx 95 9 .i64 s 9, does 100 (args := [.string s, .int .i64 12]) fun W _ => Get32 s 12 W hm (by omega), does 113 (args := [.string s, .int .i64 16]) fun W _ => Get32 s 16 W hm (by omega), sLH 124 9 .i64 .i64 s 20 (ipOwn (L s)), does 132 (args := [.string s, .int .i64 6]) fun W _ => Get16 s 6 W hm (by omega)]
                cases h8 : (get16 (L s) 6 == 0)
                · have h8q := by simpa using h8
                  let p8 : List (Ev Tryz.prog (Amb.of w)) := p7 ++ [no 143 h8]
                  cases h9 : (get16 (L s) 6 == 16384)
                  · have h9q := by simpa using h9
                    exact run (args := [.string s]) (p8 ++ [no 146 h9])
                  · have h9q := by simpa using h9
                    exact run (args := [.string s]) (p8 ++ [yes 146 h9, sLH 153 9 .i64 .i64 s (ipOwn (L s)) (ipAll (L s))])
                · have h8q := by simpa using h8
                  exact run (args := [.string s]) (p7 ++ [yes 143 h8, sLH 148 9 .i64 .i64 s (ipOwn (L s)) (ipAll (L s))])
    · have h2q := by simpa using h2
      exact run (args := [.string s]) (p1 ++ [yes 11 h2])
  · have h1q := of_decide_eq_true h1
    exact run (args := [.string s]) ([yes 6 h1])
def r4_P1_v (s : ByteArray) (hb : Bool) : Value := (bif (decide ((s.size : Int) < 20)) then (.tuple #[.agg #[.int .u8 0, .int .u16 0, .bool false, .int .u8 0, .int .u8 0, .int .u32 0, .int .u32 0, .string { data := #[] }], .string { data := #[] }, .int .i64 1]) else (bif (at_ (L s) 0 / 16 != 4) then (.tuple #[.agg #[.int .u8 0, .int .u16 0, .bool false, .int .u8 0, .int .u8 0, .int .u32 0, .int .u32 0, .string { data := #[] }], .string { data := #[] }, .int .i64 2]) else (bif (decide (ipOwn (L s) < 20)) then (.tuple #[.agg #[.int .u8 0, .int .u16 0, .bool false, .int .u8 0, .int .u8 0, .int .u32 0, .int .u32 0, .string { data := #[] }], .string { data := #[] }, .int .i64 3]) else (bif (decide ((s.size : Int) < ipOwn (L s))) then (.tuple #[.agg #[.int .u8 0, .int .u16 0, .bool false, .int .u8 0, .int .u8 0, .int .u32 0, .int .u32 0, .string { data := #[] }], .string { data := #[] }, .int .i64 3]) else (bif (decide (ipAll (L s) < ipOwn (L s))) then (.tuple #[.agg #[.int .u8 0, .int .u16 0, .bool false, .int .u8 0, .int .u8 0, .int .u32 0, .int .u32 0, .string { data := #[] }], .string { data := #[] }, .int .i64 3]) else (bif (decide (ipAll (L s) > (s.size : Int))) then (.tuple #[.agg #[.int .u8 0, .int .u16 0, .bool false, .int .u8 0, .int .u8 0, .int .u32 0, .int .u32 0, .string { data := #[] }], .string { data := #[] }, .int .i64 3]) else (bif (decide (ipAll (L s) > 2048)) then (.tuple #[.agg #[.int .u8 0, .int .u16 0, .bool false, .int .u8 0, .int .u8 0, .int .u32 0, .int .u32 0, .string { data := #[] }], .string { data := #[] }, .int .i64 3]) else (bif (hb) then (bif (get16 (L s) 6 != 0) then (bif (get16 (L s) 6 != 16384) then (.tuple #[.agg #[.int .u8 0, .int .u16 0, .bool false, .int .u8 0, .int .u8 0, .int .u32 0, .int .u32 0, .string { data := #[] }], .string { data := #[] }, .int .i64 5]) else (.tuple #[.agg #[.int .u8 (at_ (L s) 1), .int .u16 (get16 (L s) 4), .bool (decide (get16 (L s) 6 > 0)), .int .u8 (at_ (L s) 8), .int .u8 (at_ (L s) 9), .int .u32 (get32 (L s) 12), .int .u32 (get32 (L s) 16), .string (s.extract 20 (ipOwn (L s)).toNat)], .string (s.extract (ipOwn (L s)).toNat (ipAll (L s)).toNat), .int .i64 0])) else (.tuple #[.agg #[.int .u8 (at_ (L s) 1), .int .u16 (get16 (L s) 4), .bool (decide (get16 (L s) 6 > 0)), .int .u8 (at_ (L s) 8), .int .u8 (at_ (L s) 9), .int .u32 (get32 (L s) 12), .int .u32 (get32 (L s) 16), .string (s.extract 20 (ipOwn (L s)).toNat)], .string (s.extract (ipOwn (L s)).toNat (ipAll (L s)).toNat), .int .i64 0])) else (.tuple #[.agg #[.int .u8 0, .int .u16 0, .bool false, .int .u8 0, .int .u8 0, .int .u32 0, .int .u32 0, .string { data := #[] }], .string { data := #[] }, .int .i64 4])))))))))
theorem ip_v (s : ByteArray) : ip_P1_v s (holds [(L s).take (ipOwn (L s)).toNat]) = .tuple #[.agg (hdRes s).cells, .string (ipRest s), .int .i64 (ipWhy s)] ∧ r4_P1_v s (holds [(L s).take (ipOwn (L s)).toNat]) = .tuple #[.agg (hdRes s).cells, .string (ipRest s), .int .i64 (ipWhy s)] := by
  have g6 := get16_bd (L s) 6
  have b0 := at_bd (L s) 0
  unfold ip_P1_v r4_P1_v hdRes ipRest ipWhy ipFits
  by_cases h1 : s.size < 20
  · have q1 : (s.size : Int) < 20 := by omega
    simp [h1, q1, Hd.cells, hdNone]
  have q1 : ¬ (s.size : Int) < 20 := by omega
  by_cases h2 : at_ (L s) 0 / 16 = 4
  · by_cases h3 : 20 ≤ ipOwn (L s)
    · by_cases h4 : ipOwn (L s) ≤ ipAll (L s)
      · by_cases h5 : ipAll (L s) ≤ s.size
        · by_cases h6 : ipAll (L s) ≤ 2048
          · have a1 : ¬ ipOwn (L s) < 20 := by omega
            have a2 : ¬ (s.size : Int) < ipOwn (L s) := by omega
            have a3 : ¬ ipAll (L s) < ipOwn (L s) := by omega
            have a4 : ¬ ipAll (L s) > (s.size : Int) := by omega
            have a5 : ¬ ipAll (L s) > 2048 := by omega
            cases hh : holds [(L s).take (ipOwn (L s)).toNat]
            · simp [h1, q1, h2, h3, h4, h5, h6, hh, a1, a2, a3, a4, a5, Hd.cells, hdNone]
            · by_cases h7 : get16 (L s) 6 = 0
              · simp [h1, q1, h2, h3, h4, h5, h6, hh, a1, a2, a3, a4, a5, h7, Hd.cells, hdOf]
              · by_cases h8 : get16 (L s) 6 = 16384
                · simp [h1, q1, h2, h3, h4, h5, h6, hh, a1, a2, a3, a4, a5, h8, Hd.cells, hdOf]
                · have b7 : (get16 (L s) 6 == 0) = false := by simpa using h7
                  have b8 : (get16 (L s) 6 == 16384) = false := by simpa using h8
                  have c7 : (get16 (L s) 6 != 0) = true := by simpa using h7
                  have c8 : (get16 (L s) 6 != 16384) = true := by simpa using h8
                  simp [h1, q1, h2, h3, h4, h5, h6, hh, a1, a2, a3, a4, a5, h7, h8, b7, b8, c7, c8, Hd.cells, hdNone]
          · have a5 : ipAll (L s) > 2048 := by omega
            simp [h1, q1, h2, h3, h4, h5, h6, a5, Hd.cells, hdNone]
        · have a4 : ipAll (L s) > (s.size : Int) := by omega
          simp [h1, q1, h2, h3, h4, h5, a4, Hd.cells, hdNone]
      · have a3 : ipAll (L s) < ipOwn (L s) := by omega
        simp [h1, q1, h2, h3, h4, a3, Hd.cells, hdNone]
    · have a1 : ipOwn (L s) < 20 := by omega
      simp [h1, q1, h2, h3, a1, Hd.cells, hdNone]
  · have b2 : (at_ (L s) 0 / 16 != 4) = true := by simpa using h2
    simp [h1, q1, h2, b2, Hd.cells, hdNone]
theorem ip_Parse (s : ByteArray) (w : World) (hs : s.size ≤ 140737488351232) : Calls Tryz.prog 74 #[.string s] w (Ret (.tuple #[.agg (hdRes s).cells, .string (ipRest s), .int .i64 (ipWhy s)]) w) := by
  rw [← (ip_v s).1]
  exact ip_P1 s w hs _ (by rw [List.map_cons, List.map_nil, L_to])
end Go.Proofs.YtilfcikhipadpaaGreatDoor
end

section
/- All ways: printed (gen/mk.py, gen/tcpp.spec.py). -/
set_option linter.unusedVariables false
set_option linter.unusedSimpArgs false
namespace Go.Proofs.YtilfcikhipadpaaGreatDoor
open Go.RowKit Go.Lib Rx
def t_P1_v (s : ByteArray) : Value := (bif (decide ((s.size : Int) < 20)) then (.tuple #[.agg #[.int .u16 0, .int .u16 0, .int .u32 0, .int .u32 0, .int .u8 0, .int .u8 0, .int .u16 0, .int .u16 0, .int .u16 0, .string { data := #[] }], .string { data := #[] }, .bool false]) else (bif (decide (tcpOwn (L s) < 20)) then (.tuple #[.agg #[.int .u16 0, .int .u16 0, .int .u32 0, .int .u32 0, .int .u8 0, .int .u8 0, .int .u16 0, .int .u16 0, .int .u16 0, .string { data := #[] }], .string { data := #[] }, .bool false]) else (bif (decide (tcpOwn (L s) > (s.size : Int))) then (.tuple #[.agg #[.int .u16 0, .int .u16 0, .int .u32 0, .int .u32 0, .int .u8 0, .int .u8 0, .int .u16 0, .int .u16 0, .int .u16 0, .string { data := #[] }], .string { data := #[] }, .bool false]) else (.tuple #[.agg #[.int .u16 (get16 (L s) 0), .int .u16 (get16 (L s) 2), .int .u32 (get32 (L s) 4), .int .u32 (get32 (L s) 8), .int .u8 (at_ (L s) 12 % 16), .int .u8 (at_ (L s) 13), .int .u16 (get16 (L s) 14), .int .u16 (get16 (L s) 16), .int .u16 (get16 (L s) 18), .string (s.extract 20 (tcpOwn (L s)).toNat)], .string (s.extract (tcpOwn (L s)).toNat s.size), .bool true]))))
theorem t_P1 (s : ByteArray) (w : World) (hs : s.size ≤ 140737488351232) : Calls Tryz.prog 179 #[.string s] w (Ret (t_P1_v s) w) := by
  unfold t_P1_v
  have hm : s.size ≤ maxLen := by unfold maxLen; omega
  have b0 := at_bd (L s) 12
  have e12 : (at_ (L s) 12).fdiv (2 ^ min (Int.toNat 4) IntKind.u8.bits) = at_ (L s) 12 / 16 := shr4 b0
  have e13 : IntKind.i64.wrap (at_ (L s) 12 / 16) = at_ (L s) 12 / 16 := wrap64_id (by omega)
  have eow : IntKind.i64.wrap (at_ (L s) 12 / 16 * 4) = tcpOwn (L s) := wrap64_id (by omega)
  have eo2 : IntKind.i64.wrap (at_ (L s) 12 / 16 * 2 ^ min (Int.toNat 2) IntKind.i64.bits) = tcpOwn (L s) := eow
  have e15 : bits .and .u8 (at_ (L s) 12) 15 = at_ (L s) 12 % 16 := and15 b0
  have e16 : (at_ (L s) 12).tmod 16 = at_ (L s) 12 % 16 := Int.tmod_eq_emod_of_nonneg b0.1
  have e17 : IntKind.u8.wrap ((at_ (L s) 12).tdiv 16) = at_ (L s) 12 / 16 := by rw [Int.tdiv_eq_ediv_of_nonneg b0.1]; exact wrap8_id (by omega)
  cases h1 : (decide ((s.size : Int) < 20))
  · have h1q := of_decide_eq_false h1
    let p1 : List (Ev Tryz.prog (Amb.of w)) := [no 6 h1, sx 8 9 .i64 s 12, isI 9 .u8 e12, isI 10 .i64 e13, isI 11 .i64 eo2]
    cases h2 : (decide (tcpOwn (L s) < 20))
    · have h2q := of_decide_eq_false h2
      let p2 : List (Ev Tryz.prog (Amb.of w)) := p1 ++ [isF 15 h2]
      cases h3 : (decide (tcpOwn (L s) > (s.size : Int)))
      · have h3q := of_decide_eq_false h3
        exact run (args := [.string s]) (p2 ++ [no 21 h3, sx 23 9 .i64 s 12, isI 24 .u8 e15, sx 26 9 .i64 s 13, sLH 29 9 .i64 .i64 s 20 (tcpOwn (L s)), does 53 (args := [.string s, .int .i64 0]) fun W _ => Get16 s 0 W hm (by omega), does 74 (args := [.string s, .int .i64 2]) fun W _ => Get16 s 2 W hm (by omega), does 86 (args := [.string s, .int .i64 4]) fun W _ => Get32 s 4 W hm (by omega), does 93 (args := [.string s, .int .i64 8]) fun W _ => Get32 s 8 W hm (by omega), does 120 (args := [.string s, .int .i64 14]) fun W _ => Get16 s 14 W hm (by omega), does 141 (args := [.string s, .int .i64 16]) fun W _ => Get16 s 16 W hm (by omega), does 162 (args := [.string s, .int .i64 18]) fun W _ => Get16 s 18 W hm (by omega), sL 176 9 .i64 s (tcpOwn (L s))])
      · have h3q := of_decide_eq_true h3
        exact run (args := [.string s]) (p2 ++ [yes 21 h3])
    · have h2q := of_decide_eq_true h2
      exact run (args := [.string s]) (p1 ++ [isT 15 h2])
  · have h1q := of_decide_eq_true h1
    exact run (args := [.string s]) ([yes 6 h1])
def r6_P1_v (s : ByteArray) : Value := (bif (decide ((s.size : Int) < 20)) then (.tuple #[.agg #[.int .u16 0, .int .u16 0, .int .u32 0, .int .u32 0, .int .u8 0, .int .u8 0, .int .u16 0, .int .u16 0, .int .u16 0, .string { data := #[] }], .string { data := #[] }, .bool false]) else (bif (decide (tcpOwn (L s) < 20)) then (.tuple #[.agg #[.int .u16 0, .int .u16 0, .int .u32 0, .int .u32 0, .int .u8 0, .int .u8 0, .int .u16 0, .int .u16 0, .int .u16 0, .string { data := #[] }], .string { data := #[] }, .bool false]) else (bif (decide (tcpOwn (L s) > (s.size : Int))) then (.tuple #[.agg #[.int .u16 0, .int .u16 0, .int .u32 0, .int .u32 0, .int .u8 0, .int .u8 0, .int .u16 0, .int .u16 0, .int .u16 0, .string { data := #[] }], .string { data := #[] }, .bool false]) else (.tuple #[.agg #[.int .u16 (get16 (L s) 0), .int .u16 (get16 (L s) 2), .int .u32 (get32 (L s) 4), .int .u32 (get32 (L s) 8), .int .u8 (at_ (L s) 12 % 16), .int .u8 (at_ (L s) 13), .int .u16 (get16 (L s) 14), .int .u16 (get16 (L s) 16), .int .u16 (get16 (L s) 18), .string (s.extract 20 (tcpOwn (L s)).toNat)], .string (s.extract (tcpOwn (L s)).toNat s.size), .bool true]))))
theorem tcp_v (s : ByteArray) : t_P1_v s = .tuple #[.agg (segRes s).cells, .string (segRest s), .bool (tcpIs s)] ∧ r6_P1_v s = .tuple #[.agg (segRes s).cells, .string (segRest s), .bool (tcpIs s)] := by
  unfold t_P1_v r6_P1_v segRes segRest tcpIs
  by_cases h1 : s.size < 20
  · have q1 : (s.size : Int) < 20 := by omega
    have q2 : ¬ 20 ≤ s.size := by omega
    simp [q1, q2, Seg.cells, segNone]
  have q1 : ¬ (s.size : Int) < 20 := by omega
  have q2 : 20 ≤ s.size := by omega
  by_cases h2 : tcpOwn (L s) < 20
  · have q3 : ¬ 20 ≤ tcpOwn (L s) := by omega
    simp [q1, q2, q3, h2, Seg.cells, segNone]
  have q3 : 20 ≤ tcpOwn (L s) := by omega
  by_cases h3 : tcpOwn (L s) ≤ s.size
  · have q4 : ¬ tcpOwn (L s) > (s.size : Int) := by omega
    simp [q1, q2, q3, h2, h3, q4, Seg.cells, segOf]
  · have q4 : tcpOwn (L s) > (s.size : Int) := by omega
    simp [q1, q2, q3, h2, h3, q4, Seg.cells, segNone]
theorem t_Parse (s : ByteArray) (w : World) (hs : s.size ≤ 140737488351232) : Calls Tryz.prog 179 #[.string s] w (Ret (.tuple #[.agg (segRes s).cells, .string (segRest s), .bool (tcpIs s)]) w) := by
  rw [← (tcp_v s).1]
  exact t_P1 s w hs
end Go.Proofs.YtilfcikhipadpaaGreatDoor
end
