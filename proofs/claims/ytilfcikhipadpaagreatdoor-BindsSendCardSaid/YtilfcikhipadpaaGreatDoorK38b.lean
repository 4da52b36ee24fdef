/- Several texts of this claim, one behind the other. -/
import Derived.Test.YtilfcikhipadpaaGreatDoorK37b
import Derived.KernelRfl

section
/- The document's Data is the program's: a plain law. -/
set_option linter.unusedVariables false
set_option linter.unusedSimpArgs false
namespace Go.Proofs.YtilfcikhipadpaaGreatDoor
open Go.RowKit

theorem lay_app {a p : List UInt8} {k : Nat} {n : Int} (h : k + 2 ≤ a.length) : lay (a ++ p) k n = lay a k n ++ p := by
  unfold lay
  rw [List.take_append_of_le_length (by omega), List.drop_append_of_le_length (by omega)]
  simp only [List.append_assoc]
theorem em_split {l : List UInt8} {e : Nat} (h : 20 ≤ e) (h2 : e ≤ l.length) (a c : Int) : l.take 12 ++ (ipsOf a c ++ l.drop 20) = ((l.take e).take 12 ++ (ipsOf a c ++ (l.take e).drop 20)) ++ l.drop e := by
  have h3 : (l.take e).take 12 = l.take 12 := by rw [List.take_take]; congr 1; omega
  have h4 : l.drop 20 = (l.take e).drop 20 ++ l.drop e := by
    conv => lhs; rw [← List.take_append_drop e l]
    rw [List.drop_append_of_le_length (by rw [List.length_take]; omega)]
  rw [h3, h4]
  simp only [List.append_assoc]
theorem dtHd_len {l : List UInt8} (a c : Int) (h : 20 ≤ emAt l) (h2 : emAt l ≤ l.length) : (dtHd l a c).length = emAt l := by
  unfold dtHd
  simp only [List.length_append, List.length_take, List.length_drop, ipsOf_len]; omega
theorem dtSum_is {l : List UInt8} (a c : Int) (h : 20 ≤ emAt l) (h2 : emAt l ≤ l.length) : dtSum l a c = updates (be16 l 10) ((l.drop 12).take 8) (ipsOf a c) := by
  unfold dtSum dtHd
  have h3 : ((l.take (emAt l)).take 12).length = 12 := by simp only [List.length_take]; omega
  have h5 : ((l.take (emAt l)).take 12).drop 12 = [] := List.drop_eq_nil_of_le (by omega)
  rw [List.drop_append_of_le_length (by omega), h5, List.nil_append, List.take_append_of_le_length (Nat.le_of_eq (ipsOf_len a c).symm), List.take_of_length_le (Nat.le_of_eq (ipsOf_len a c))]
theorem emMid_is {l : List UInt8} (a c : Int) (h : 20 ≤ emAt l) (h2 : emAt l ≤ l.length) : emMid l a c = lay (dtHd l a c) 10 (dtSum l a c) ++ l.drop (emAt l) := by
  unfold emMid
  rw [em_split h h2, ← dtSum_is a c h h2]
  exact lay_app (by have := dtHd_len (l := l) a c h h2; unfold dtHd at this; omega)
theorem be16_app {a p : List UInt8} {k j : Nat} (h : k = a.length + j) : be16 (a ++ p) k = be16 p j := by
  have : p = (a ++ p).drop a.length := by rw [List.drop_append_of_le_length (Nat.le_refl _), List.drop_length, List.nil_append]
  rw [h]
  conv => rhs; rw [this]
  rw [be16_drop]
theorem emFlowL_app {G P : List UInt8} {e : Nat} (h : G.length = e) (b d : Int) : emFlowL (G ++ P) e b d = G ++ (putW [b, d] ++ P.drop 4) := by
  unfold emFlowL
  rw [List.take_append_of_le_length (by omega), List.take_of_length_le (by omega), List.drop_append, List.drop_eq_nil_of_le (by omega), List.nil_append, show e + 4 - G.length = 4 from by omega]
theorem emFlow_app {G P : List UInt8} {e : Nat} {t : Tup} {ips : List UInt8} (a b c d : Int) {k : Nat} (h : G.length = e) (hk : 4 ≤ k) (hp : (t.p = 17 ∧ k = 6) ∨ (t.p = 6 ∧ k = 16)) (hP : k + 2 ≤ P.length) (hi : ipsOf t.a t.c = ips) (h4 : putW [t.b, t.d] = P.take 4) :
    emFlow (G ++ P) e t a b c d k = G ++ flowNew P ips a b c d k := by
  have hl : (putW [b, d] ++ P.drop 4).length = P.length := by simp only [List.length_append, List.length_drop, putW2_len]; omega
  have hw : get16 (emFlowL (G ++ P) e b d) ((e + k : Nat) : Int) = be16 P k := by
    rw [emFlowL_app h, get16_nat (by rw [List.length_append, hl]; omega), be16_app (j := k) (by omega), be16_app (a := putW [b, d]) (j := k - 4) (by rw [putW2_len]; omega), be16_drop]
    congr 1; omega
  have hx : be16 (putW [b, d] ++ P.drop 4) k = be16 P k := by
    rw [be16_app (a := putW [b, d]) (j := k - 4) (by rw [putW2_len]; omega), be16_drop]
    congr 1; omega
  have hn : emFlowN (G ++ P) e t a b c d k = flowSum P ips a b c d k := by unfold emFlowN flowSum; rw [hw, hi, h4]
  unfold emFlow flowNew
  rw [hw, hn, emFlowL_app h, app_lay (k := e + k) (by omega)]
  have hlen : e + k + 2 ≤ (G ++ P).length := by rw [List.length_append]; omega
  rw [if_pos hlen]
  rcases hp with ⟨hp, rfl⟩ | ⟨hp, rfl⟩
  · by_cases hz : be16 P 6 = 0
    · rw [if_pos ⟨hp, hz⟩]
      unfold flowFix
      rw [if_pos rfl, if_pos hz, ← app_lay (k := e + 6) (j := 6) (by omega), ← hz, ← hx, lay_self (by rw [hl]; omega)]
    · rw [if_neg (fun h => hz h.2)]
      unfold flowFix
      rw [if_pos rfl, if_neg hz]
      by_cases hn0 : flowSum P ips a b c d 6 = 0
      · rw [if_pos ⟨hp, hn0⟩, if_pos hn0]
      · rw [if_neg (fun h => hn0 h.2), if_neg hn0]
  · rw [if_neg (fun h => by omega), if_neg (fun h => by omega)]
    unfold flowFix
    rw [if_neg (by decide)]
theorem emMsg_app {G P : List UInt8} {e : Nat} (id : Int) (h : G.length = e) (hP : 8 ≤ P.length) : emMsgN (G ++ P) e id = G ++ queryOf P id := by
  unfold emMsgN queryOf
  rw [be16_app (j := 2) (by omega), be16_app (j := 4) (by omega), ← app_lay (k := e + 4) (j := 4) (by omega), ← app_lay (k := e + 2) (j := 2) (by omega)]
theorem dtOf_em {l : List UInt8} (hem : emWhy l = 0) (a b c d : Int) : dtOf l a b c d = emNew l a b c d := by
  obtain ⟨p1, p2, p3, _, _, p6⟩ := emWhy_parts hem
  have hm := emMid_is (l := l) a c p1 (by omega)
  have hG : (lay (dtHd l a c) 10 (dtSum l a c)).length = emAt l := by rw [lay_length (by rw [dtHd_len a c p1 (by omega)]; omega), dtHd_len a c p1 (by omega)]
  have hP : 8 ≤ (l.drop (emAt l)).length := by rw [List.length_drop]; omega
  have hd : dtOf l a b c d = lay (dtHd l a c) 10 (dtSum l a c) ++ crOf (l.drop (emAt l)) ((l.drop 12).take 8) (emTup l).p (emAsk l) a b c d := by
    unfold dtOf lay
    simp only [List.append_assoc]
  rw [hd]
  unfold emNew emCh
  rw [hm]
  generalize lay (dtHd l a c) 10 (dtSum l a c) = G at *
  rw [emTup_p]
  have hflow : at_ l 9 = 6 ∨ at_ l 9 = 17 → ipsOf (emTup l).a (emTup l).c = (l.drop 12).take 8 ∧ putW [(emTup l).b, (emTup l).d] = (l.drop (emAt l)).take 4 := by
    intro h
    unfold emTup
    rw [if_pos h]
    refine ⟨ips_self (by omega), ?_⟩
    have h1 := ports_self (l := l.drop (emAt l)) (by omega)
    rw [be16_drop, be16_drop, Nat.add_zero] at h1
    have h2 := congrArg (List.take 4) h1
    rw [List.take_append_of_le_length (Nat.le_of_eq (putW2_len _ _).symm), List.take_of_length_le (Nat.le_of_eq (putW2_len _ _))] at h2
    exact h2
  unfold crOf
  by_cases h6 : at_ l 9 = 6
  · rw [if_pos h6, if_neg (by omega)]
    obtain ⟨q1, q2⟩ := hflow (Or.inl h6)
    by_cases h18 : 18 ≤ (l.drop (emAt l)).length
    · rw [if_pos ⟨h6, h18⟩, if_pos h6]
      exact (emFlow_app a b c d hG (by decide) (Or.inr ⟨by rw [emTup_p]; exact h6, rfl⟩) (by omega) q1 q2).symm
    · rw [if_neg (fun h => h18 h.2), if_pos h6]
      unfold emFlow
      rw [if_neg (fun h => by have := h.1; rw [emTup_p] at this; omega), if_neg (by rw [List.length_append]; omega), emFlowL_app hG]
  · rw [if_neg h6]
    by_cases h17 : at_ l 9 = 17
    · rw [if_pos h17, if_pos h17, if_neg h6]
      obtain ⟨q1, q2⟩ := hflow (Or.inr h17)
      exact (emFlow_app a b c d hG (by decide) (Or.inl ⟨by rw [emTup_p]; exact h17, rfl⟩) (by omega) q1 q2).symm
    · rw [if_neg h17, if_neg h17, if_neg (fun h => h6 h.1), if_neg h6]
      exact (emMsg_app _ hG hP).symm
end Go.Proofs.YtilfcikhipadpaaGreatDoor
end

section
/- All ways: printed (gen/mk.py, gen/emi.spec.py). -/
set_option linter.unusedVariables false
set_option linter.unusedSimpArgs false
namespace Go.Proofs.YtilfcikhipadpaaGreatDoor
open Go.RowKit Go.Lib Rx
def lk_1_v (qa qi : Bool) (m4 : ByteArray) : Value := (bif (decide ((m4.size : Int) < 20)) then (.agg #[.int .i64 0, .int .u8 0, .int .u32 0, .int .u16 0, .int .u32 0, .int .u16 0, .bool false, .int .i64 15]) else (bif (at_ (L m4) 0 / 16 != 4) then (.agg #[.int .i64 0, .int .u8 0, .int .u32 0, .int .u16 0, .int .u32 0, .int .u16 0, .bool false, .int .i64 15]) else (bif (decide (emEnd (L m4) < 20)) then (.agg #[.int .i64 0, .int .u8 0, .int .u32 0, .int .u16 0, .int .u32 0, .int .u16 0, .bool false, .int .i64 15]) else (bif (decide (emEnd (L m4) > (m4.size : Int))) then (.agg #[.int .i64 0, .int .u8 0, .int .u32 0, .int .u16 0, .int .u32 0, .int .u16 0, .bool false, .int .i64 15]) else (bif (get16 (L m4) 6 % 8192 != 0) then (.agg #[.int .i64 0, .int .u8 0, .int .u32 0, .int .u16 0, .int .u32 0, .int .u16 0, .bool false, .int .i64 15]) else (bif (decide ((m4.size : Int) - emEnd (L m4) < 8)) then (.agg #[.int .i64 0, .int .u8 0, .int .u32 0, .int .u16 0, .int .u32 0, .int .u16 0, .bool false, .int .i64 15]) else (bif (at_ (L m4) 9 == 6) then (.agg #[.int .i64 (emEnd (L m4)), .int .u8 (at_ (L m4) 9), .int .u32 (get32 (L m4) 12), .int .u16 (get16 (L (m4.extract (emEnd (L m4)).toNat m4.size)) 0), .int .u32 (get32 (L m4) 16), .int .u16 (get16 (L (m4.extract (emEnd (L m4)).toNat m4.size)) 2), .bool false, .int .i64 0]) else (bif (at_ (L m4) 9 == 17) then (.agg #[.int .i64 (emEnd (L m4)), .int .u8 (at_ (L m4) 9), .int .u32 (get32 (L m4) 12), .int .u16 (get16 (L (m4.extract (emEnd (L m4)).toNat m4.size)) 0), .int .u32 (get32 (L m4) 16), .int .u16 (get16 (L (m4.extract (emEnd (L m4)).toNat m4.size)) 2), .bool false, .int .i64 0]) else (bif (at_ (L m4) 9 != 1) then (.agg #[.int .i64 0, .int .u8 0, .int .u32 0, .int .u16 0, .int .u32 0, .int .u16 0, .bool false, .int .i64 6]) else (bif (qi) then (bif (qa) then (.agg #[.int .i64 (emEnd (L m4)), .int .u8 (at_ (L m4) 9), .int .u32 (get32 (L m4) 12), .int .u16 (get16 (L (m4.extract (emEnd (L m4)).toNat m4.size)) 4), .int .u32 (get32 (L m4) 16), .int .u16 0, .bool qa, .int .i64 0]) else (.agg #[.int .i64 (emEnd (L m4)), .int .u8 (at_ (L m4) 9), .int .u32 (get32 (L m4) 12), .int .u16 0, .int .u32 (get32 (L m4) 16), .int .u16 (get16 (L (m4.extract (emEnd (L m4)).toNat m4.size)) 4), .bool qa, .int .i64 0])) else (.agg #[.int .i64 0, .int .u8 0, .int .u32 0, .int .u16 0, .int .u32 0, .int .u16 0, .bool false, .int .i64 15])))))))))))
theorem lk_1 (m4 : ByteArray) (w : World) (qa qi : Bool) (hd : m4.size ≤ 140737488351232) (c5 : ∀ W, Below w.heap.size w W → Calls Tryz.prog 85 #[.agg #[.int .u8 (at_ (L (m4.extract (emEnd (L m4)).toNat m4.size)) 0), .int .u8 (at_ (L (m4.extract (emEnd (L m4)).toNat m4.size)) 1), .int .u16 0, .string { data := #[] }, .string { data := #[] }]] W (Ret (.tuple #[.bool qa, .bool qi]) W)) : Calls Tryz.prog 89 #[.string m4] w (Ret (lk_1_v qa qi m4) w) := by
  unfold lk_1_v
  have hm : ∀ {a : ByteArray}, a.size ≤ 140737488351232 → a.size ≤ maxLen := fun h => by unfold maxLen; omega
  have b0 := at_bd (L m4) 0
  have b6 := get16_bd (L m4) 6
  have hE : 0 ≤ emEnd (L m4) ∧ emEnd (L m4) ≤ 60 := by unfold emEnd; omega
  have e3 : IntKind.i64.wrap (at_ (L m4) 0 % 16) = at_ (L m4) 0 % 16 := wrap64_id (by omega)
  have e4 : IntKind.i64.wrap (at_ (L m4) 0 % 16 * 4) = emEnd (L m4) := wrap64_id (by omega)
  have f1 : IntKind.u8.wrap ((at_ (L m4) 0).tdiv 16) = at_ (L m4) 0 / 16 := by rw [Int.tdiv_eq_ediv_of_nonneg b0.1]; exact wrap8_id (by omega)
  have f2 : (at_ (L m4) 0).tmod 16 = at_ (L m4) 0 % 16 := Int.tmod_eq_emod_of_nonneg b0.1
  have hz : (m4.extract (emEnd (L m4)).toNat m4.size).size = m4.size - (emEnd (L m4)).toNat := by rw [ByteArray.size_extract]; omega
  have f6 : (get16 (L m4) 6).tmod 8192 = get16 (L m4) 6 % 8192 := Int.tmod_eq_emod_of_nonneg b6.1
  have f5 : IntKind.i64.wrap ((m4.size : Int) - emEnd (L m4)) = (m4.size : Int) - emEnd (L m4) := wrap64_id (by omega)
  cases h1 : (decide ((m4.size : Int) < 20))
  · have h1q := of_decide_eq_false h1
    let p1 : List (Ev Tryz.prog (Amb.of w)) := [isF 4 h1, sx 6 9 .i64 m4 0, isI 7 .u8 f1]
    cases h2 : (at_ (L m4) 0 / 16 != 4)
    · have h2q := by simpa using h2
      let p2 : List (Ev Tryz.prog (Amb.of w)) := p1 ++ [no 10 h2, sx 12 9 .i64 m4 0, isI 13 .u8 f2, isI 14 .i64 e3, isI 15 .i64 e4]
      cases h3 : (decide (emEnd (L m4) < 20))
      · have h3q := of_decide_eq_false h3
        let p3 : List (Ev Tryz.prog (Amb.of w)) := p2 ++ [isF 19 h3]
        cases h4 : (decide (emEnd (L m4) > (m4.size : Int)))
        · have h4q := of_decide_eq_false h4
          let p4 : List (Ev Tryz.prog (Amb.of w)) := p3 ++ [isF 25 h4, does 30 (args := [.string m4, .int .i64 6]) fun W _ => r_Get16 m4 6 W (hm (by omega)) (by omega), isI 39 .u16 f6]
          cases h5 : (get16 (L m4) 6 % 8192 != 0)
          · have h5q := by simpa using h5
            let p5 : List (Ev Tryz.prog (Amb.of w)) := p4 ++ [isF 42 h5, isI 46 .i64 f5]
            cases h6 : (decide ((m4.size : Int) - emEnd (L m4) < 8))
            · have h6q := of_decide_eq_false h6
              let p6 : List (Ev Tryz.prog (Amb.of w)) := p5 ++ [no 49 h6, sx 52 9 .i64 m4 9, does 57 (args := [.string m4, .int .i64 12]) fun W _ => r_Get32 m4 12 W (hm (by omega)) (by omega), does 71 (args := [.string m4, .int .i64 16]) fun W _ => r_Get32 m4 16 W (hm (by omega)) (by omega), sL 87 9 .i64 m4 (emEnd (L m4))]
              cases h7 : (at_ (L m4) 9 == 6)
              · have h7q := by simpa using h7
                let p7 : List (Ev Tryz.prog (Amb.of w)) := p6 ++ [isF 93 h7]
                cases h8 : (at_ (L m4) 9 == 17)
                · have h8q := by simpa using h8
                  let p8 : List (Ev Tryz.prog (Amb.of w)) := p7 ++ [no 99 h8]
                  cases h9 : (at_ (L m4) 9 != 1)
                  · have h9q := by simpa using h9
                    let p9 : List (Ev Tryz.prog (Amb.of w)) := p8 ++ [no 104 h9, sx 106 9 .i64 (m4.extract (emEnd (L m4)).toNat m4.size) 0, sx 108 9 .i64 (m4.extract (emEnd (L m4)).toNat m4.size) 1, does 110 (args := [.agg #[.int .u8 (at_ (L (m4.extract (emEnd (L m4)).toNat m4.size)) 0), .int .u8 (at_ (L (m4.extract (emEnd (L m4)).toNat m4.size)) 1), .int .u16 0, .string { data := #[] }, .string { data := #[] }]]) c5]
                    cases h10 : (qi)
                    · exact run (args := [.string m4]) (p9 ++ [nyes 118 h10])
                    · let p10 : List (Ev Tryz.prog (Amb.of w)) := p9 ++ [nno 118 h10]
                      cases h11 : (qa)
                      · subst h11
                        exact run (args := [.string m4]) (p10 ++ [does 128 (args := [.string (m4.extract (emEnd (L m4)).toNat m4.size), .int .i64 4]) fun W _ => r_Get16 (m4.extract (emEnd (L m4)).toNat m4.size) 4 W (hm (by omega)) (by omega)])
                      · subst h11
                        exact run (args := [.string m4]) (p10 ++ [does 128 (args := [.string (m4.extract (emEnd (L m4)).toNat m4.size), .int .i64 4]) fun W _ => r_Get16 (m4.extract (emEnd (L m4)).toNat m4.size) 4 W (hm (by omega)) (by omega)])
                  · have h9q := by simpa using h9
                    exact run (args := [.string m4]) (p8 ++ [yes 104 h9])
                · have h8q := by simpa using h8
                  exact run (args := [.string m4]) (p7 ++ [yes 99 h8, does 104 (args := [.string (m4.extract (emEnd (L m4)).toNat m4.size), .int .i64 0]) fun W _ => r_Get16 (m4.extract (emEnd (L m4)).toNat m4.size) 0 W (hm (by omega)) (by omega), does 117 (args := [.string (m4.extract (emEnd (L m4)).toNat m4.size), .int .i64 2]) fun W _ => r_Get16 (m4.extract (emEnd (L m4)).toNat m4.size) 2 W (hm (by omega)) (by omega)])
              · have h7q := by simpa using h7
                exact run (args := [.string m4]) (p6 ++ [isT 93 h7, does 104 (args := [.string (m4.extract (emEnd (L m4)).toNat m4.size), .int .i64 0]) fun W _ => r_Get16 (m4.extract (emEnd (L m4)).toNat m4.size) 0 W (hm (by omega)) (by omega), does 117 (args := [.string (m4.extract (emEnd (L m4)).toNat m4.size), .int .i64 2]) fun W _ => r_Get16 (m4.extract (emEnd (L m4)).toNat m4.size) 2 W (hm (by omega)) (by omega)])
            · have h6q := of_decide_eq_true h6
              exact run (args := [.string m4]) (p5 ++ [yes 49 h6])
          · have h5q := by simpa using h5
            exact run (args := [.string m4]) (p4 ++ [isT 42 h5])
        · have h4q := of_decide_eq_true h4
          exact run (args := [.string m4]) (p3 ++ [isT 25 h4])
      · have h3q := of_decide_eq_true h3
        exact run (args := [.string m4]) (p2 ++ [isT 19 h3])
    · have h2q := by simpa using h2
      exact run (args := [.string m4]) (p1 ++ [yes 10 h2])
  · have h1q := of_decide_eq_true h1
    exact run (args := [.string m4]) ([isT 4 h1])
/-- what Look finds -/
def lkOf (d : List UInt8) : Value := if emWhy d = 0 then .agg #[.int .i64 (emEnd d), .int .u8 (emTup d).p, .int .u32 (emTup d).a, .int .u16 (emTup d).b, .int .u32 (emTup d).c, .int .u16 (emTup d).d, .bool (emAsk d), .int .i64 0]
  else .agg #[.int .i64 0, .int .u8 0, .int .u32 0, .int .u16 0, .int .u32 0, .int .u16 0, .bool false, .int .i64 (emWhy d)]
theorem lk_v (d : ByteArray) : lk_1_v (qAsk (emMsg (L d))) (qIs (emMsg (L d))) d = lkOf (L d) := by
  have hl : (L d).length = d.size := L_length d
  unfold lk_1_v
  have Z : emWhy (L d) = 15 → lkOf (L d) = .agg #[.int .i64 0, .int .u8 0, .int .u32 0, .int .u16 0, .int .u32 0, .int .u16 0, .bool false, .int .i64 15] := fun h => by unfold lkOf; rw [h, if_neg (by decide)]
  by_cases h1 : (d.size : Int) < 20
  · rw [Z (by unfold emWhy; rw [if_pos (Or.inl (by rw [hl]; exact h1))])]; simp [h1]
  have g12 : get32 (L d) 12 = be32 (L d) 12 := get32_nat (k := 12) (by omega)
  have g16 : get32 (L d) 16 = be32 (L d) 16 := get32_nat (k := 16) (by omega)
  have g6 : get16 (L d) 6 = be16 (L d) 6 := get16_nat (k := 6) (by omega)
  rw [g12, g16, g6]
  by_cases h2 : at_ (L d) 0 / 16 = 4
  rotate_left
  · have b2 : (at_ (L d) 0 / 16 != 4) = true := by simpa using h2
    rw [Z (by unfold emWhy; rw [if_pos (Or.inr h2)])]; simp [h1, h2, b2]
  have A1 : ¬ (((L d).length : Int) < 20 ∨ at_ (L d) 0 / 16 ≠ 4) := by rw [hl]; rintro (h | h); exact h1 h; exact h h2
  by_cases h3 : emEnd (L d) < 20
  · rw [Z (by unfold emWhy; rw [if_neg A1, if_pos (Or.inl h3)])]; simp [h1, h2, h3]
  by_cases h4 : (d.size : Int) - 8 < emEnd (L d)
  · rw [Z (by unfold emWhy; rw [if_neg A1, if_pos (Or.inr (Or.inl (by rw [hl]; exact h4)))])]
    by_cases h6 : emEnd (L d) > (d.size : Int)
    · simp [h1, h2, h3, h4, h6]
    · have h7 : (d.size : Int) - emEnd (L d) < 8 := by omega
      cases hb : be16 (L d) 6 % 8192 != 0 <;> simp [h1, h2, h3, h4, h6, h7, hb]
  have h6 : ¬ emEnd (L d) > (d.size : Int) := by omega
  have h7 : ¬ (d.size : Int) - emEnd (L d) < 8 := by omega
  by_cases h5 : be16 (L d) 6 % 8192 = 0
  rotate_left
  · have b5 : (be16 (L d) 6 % 8192 != 0) = true := by simpa using h5
    rw [Z (by unfold emWhy; rw [if_neg A1, if_pos (Or.inr (Or.inr h5))])]; simp [h1, h2, h3, h4, h5, h6, h7, b5]
  have A2 : ¬ (emEnd (L d) < 20 ∨ ((L d).length : Int) - 8 < emEnd (L d) ∨ be16 (L d) 6 % 8192 ≠ 0) := by rw [hl]; rintro (h | h | h); exact h3 h; exact h4 h; exact h h5
  obtain ⟨_, _, _, p0, p2, p4⟩ := em_ports (d := d) (by omega) (by omega)
  rw [p0, p2, p4]
  have e : ∀ r q, emWhy (L d) = 0 → emTup (L d) = r → emAsk (L d) = q → lkOf (L d) = .agg #[.int .i64 (emEnd (L d)), .int .u8 r.p, .int .u32 r.a, .int .u16 r.b, .int .u32 r.c, .int .u16 r.d, .bool q, .int .i64 0] := fun r q h a b => by unfold lkOf; rw [if_pos h, a, b]
  by_cases k6 : at_ (L d) 9 = 6
  · rw [e _ false (by unfold emWhy; rw [if_neg A1, if_neg A2, if_pos (Or.inl k6)]) (by unfold emTup; rw [if_pos (Or.inl k6)]) (by unfold emAsk; simp [k6])]
    simp [h1, h2, h3, h4, h5, h6, h7, k6]
  by_cases k17 : at_ (L d) 9 = 17
  · rw [e _ false (by unfold emWhy; rw [if_neg A1, if_neg A2, if_pos (Or.inr k17)]) (by unfold emTup; rw [if_pos (Or.inr k17)]) (by unfold emAsk; simp [k17])]
    simp [h1, h2, h3, h4, h5, h6, h7, k17]
  have A3 : ¬ (at_ (L d) 9 = 6 ∨ at_ (L d) 9 = 17) := by rintro (h | h); exact k6 h; exact k17 h
  have b6 : (at_ (L d) 9 == 6) = false := by simpa using k6
  have b7 : (at_ (L d) 9 == 17) = false := by simpa using k17
  by_cases k1 : at_ (L d) 9 = 1
  · have K : emAsk (L d) = qAsk (emMsg (L d)) := by unfold emAsk; simp [k1]
    cases hq : qIs (emMsg (L d))
    · rw [Z (by unfold emWhy; rw [if_neg A1, if_neg A2, if_neg A3, if_neg (by simpa using k1), if_neg (by rw [hq]; decide)])]
      cases ha : qAsk (emMsg (L d)) <;> simp [h1, h2, h3, h4, h5, h6, h7, k1]
    · have W0 : emWhy (L d) = 0 := by unfold emWhy; rw [if_neg A1, if_neg A2, if_neg A3, if_neg (by simpa using k1), if_pos hq]
      cases ha : qAsk (emMsg (L d))
      · rw [e _ false W0 (by unfold emTup; rw [if_neg A3, if_neg (by rw [ha]; decide)]) (by rw [K, ha])]
        simp [h1, h2, h3, h4, h5, h6, h7, k1]
      · rw [e _ true W0 (by unfold emTup; rw [if_neg A3, if_pos ha]) (by rw [K, ha])]
        simp [h1, h2, h3, h4, h5, h6, h7, k1]
  · have b1 : (at_ (L d) 9 == 1) = false := by simpa using k1
    have b1' : (at_ (L d) 9 != 1) = true := by simpa using k1
    have w6 : emWhy (L d) = 6 := by unfold emWhy; rw [if_neg A1, if_neg A2, if_neg A3, if_pos k1]
    unfold lkOf
    rw [w6, if_neg (by decide)]
    simp [h1, h2, h3, h4, h5, h6, h7, b6, b7, b1, b1']
theorem rd_Look (s : ByteArray) (w : World) (hs : s.size ≤ 140737488351232) : Calls Tryz.prog 89 #[.string s] w (Ret (lkOf (L s)) w) := by
  have cq := fun W (b : Below w.heap.size w W) => r7_Query (emMsg (L s)) W
  rw [emMsg_part] at cq
  have k := lk_1 s w _ _ hs cq
  rw [← emMsg_part, lk_v] at k
  exact k
end Go.Proofs.YtilfcikhipadpaaGreatDoor
end

section
/- The document's answer for rewrite (porterref09): With, Word, Pair, Query, over this program. -/
set_option linter.unusedVariables false
set_option linter.unusedSimpArgs false
namespace Go.Proofs.YtilfcikhipadpaaGreatDoor
open Go.RowKit
attribute [local go_sem] Oper.semAt_some

theorem r_Get16_in (s : ByteArray) (k : Nat) (w : World) (hs : s.size ≤ 140737488351232) (h : k + 2 ≤ s.size) : Calls Tryz.prog 144 #[.string s, .int .i64 k] w (Ret (.tuple #[.int .u16 (be16 (L s) k), .bool true]) w) := by
  have c := r_Get16 s (k : Int) w (by unfold maxLen; omega) ⟨by omega, by omega⟩
  rw [get16_nat (by rw [L_length]; exact h), show has s.size (k : Int) 2 = true from by simp [has]; omega] at c
  exact c
theorem rn_Word (s : ByteArray) (k : Nat) (w : World) (hs : s.size ≤ 140737488351232) (h : k + 2 ≤ s.size) :
    Calls Tryz.prog 145 #[.string s, .int .i64 k] w (Ret (.int .u16 (be16 (L s) k)) w) := by
  have c := fun w => r_Get16_in s k w hs h
  obtain ⟨x, hx⟩ : ∃ x, x = be16 (L s) k := ⟨_, rfl⟩
  rw [← hx] at c ⊢
  have C := hide c
  clear c hx
  go_enter Tryz.func145, Tryz.ntmps145
  go_wp2_with fail
  (with_reducible refine (C.out _).mono ?_)
  rintro e w1 ⟨rfl, b1⟩
  go_wp2_with fail
  go_ret
  exact ⟨rfl, (by (repeat' (first | with_reducible exact b1 | with_reducible exact Below.refl _ _ | with_reducible refine Below.setCell ?_ (by first | exact Nat.le_refl _ | (dsimp only; omega)) _ | with_reducible refine bstep ?_ (fresh_below _ _) | with_reducible refine Below.drew ?_)))⟩
theorem rn_With (s : ByteArray) (k : Nat) (p : ByteArray) (w : World) (hs : s.size ≤ 140737488351232) (h : k + p.size ≤ s.size) :
    Calls Tryz.prog 117 #[.string s, .int .i64 k, .string p] w (Ret (.string (S ((L s).take k ++ (L p ++ (L s).drop (k + p.size))))) w) := by
  have c := fun w => r_With s (k : Int) p w hs (by omega) ⟨by omega, by omega⟩
  have hx : has s.size (k : Int) p.size = true := by simp [has]; omega
  rw [show putAt (L s) (k : Int) (L p) = (L s).take k ++ (L p ++ (L s).drop (k + p.size)) from by unfold putAt; rw [L_length, L_length, if_pos hx]; rfl, hx] at c
  obtain ⟨x, hx⟩ : ∃ x, x = S ((L s).take k ++ (L p ++ (L s).drop (k + p.size))) := ⟨_, rfl⟩
  rw [← hx] at c ⊢
  have C := hide c
  clear c hx
  go_enter Tryz.func117, Tryz.ntmps117
  go_wp2_with fail
  (with_reducible refine (C.out _).mono ?_)
  rintro e w1 ⟨rfl, b1⟩
  go_wp2_with fail
  go_ret
  exact ⟨rfl, (by (repeat' (first | with_reducible exact b1 | with_reducible exact Below.refl _ _ | with_reducible refine Below.setCell ?_ (by first | exact Nat.le_refl _ | (dsimp only; omega)) _ | with_reducible refine bstep ?_ (fresh_below _ _) | with_reducible refine Below.drew ?_)))⟩

set_option maxRecDepth 100000 in
set_option maxHeartbeats 2000000 in
theorem rn_Pair (a b c d : Int) (w : World) (ha : 0 ≤ a ∧ a ≤ 4294967295) (hc : 0 ≤ c ∧ c ≤ 4294967295) :
    Calls Tryz.prog 170 #[.agg #[.int .u32 a, .int .u16 b, .int .u32 c, .int .u16 d]] w (Ret (.string (S (ipsOf a c))) w) := by
  have f1 := fun W => r_Put32 a W ha.1 ha.2
  have f2 := fun W => r_Put32 c W hc.1 hc.2
  have e3 : S (put32 a) ++ S (put32 c) = S (ipsOf a c) := by rw [S_append]; rfl
  have z3 : (S (put32 a)).size + (S (put32 c)).size ≤ 1000 := by rw [S_size, S_size]; simp [put32, put16_length]
  obtain ⟨s1, h1⟩ : ∃ s, s = S (put32 a) := ⟨_, rfl⟩
  obtain ⟨s2, h2⟩ : ∃ s, s = S (put32 c) := ⟨_, rfl⟩
  rw [← h1] at f1 e3 z3; rw [← h2] at f2 e3 z3; rw [← e3]
  have z4 : (s1 ++ s2).size ≤ 1000 := by rw [ByteArray.size_append]; exact z3
  have F1 := hide f1; have F2 := hide f2
  clear f1 f2 e3 h1 h2
  go_enter Tryz.func170, Tryz.ntmps170
  have d0 := Cells.new w #[.int .u32 a, .int .u16 b, .int .u32 c, .int .u16 d] 141
  go_wp2_with fail
  have SK := hide (fun (zX zY : World) (zh : (Below w.heap.size w zX ∧ zX.cell? ⟨w.heap.size, 0, none⟩ = some (.int .u32 a) ∧ zX.cell? ⟨w.heap.size, 2, none⟩ = some (.int .u32 c) ∧ True)) (zb : Below zX.heap.size zX zY) => (show (Below w.heap.size w zY ∧ zY.cell? ⟨w.heap.size, 0, none⟩ = some (.int .u32 a) ∧ zY.cell? ⟨w.heap.size, 2, none⟩ = some (.int .u32 c) ∧ True) from ⟨bstep zh.1 zb, cellAt zb zh.2.1, cellAt zb zh.2.2.1, trivial⟩))
  have FS := hide (fun (zX : World) (zh : (Below w.heap.size w zX ∧ zX.cell? ⟨w.heap.size, 0, none⟩ = some (.int .u32 a) ∧ zX.cell? ⟨w.heap.size, 2, none⟩ = some (.int .u32 c) ∧ True)) => zh.1)
  have GS := hide (fun (zX : World) (zh : (Below w.heap.size w zX ∧ zX.cell? ⟨w.heap.size, 0, none⟩ = some (.int .u32 a) ∧ zX.cell? ⟨w.heap.size, 2, none⟩ = some (.int .u32 c) ∧ True)) => zh)
  have hS0 : (Below w.heap.size w (w.alloc (.cells #[.int .u32 a, .int .u16 b, .int .u32 c, .int .u16 d] 141)) ∧ (w.alloc (.cells #[.int .u32 a, .int .u16 b, .int .u32 c, .int .u16 d] 141)).cell? ⟨w.heap.size, 0, none⟩ = some (.int .u32 a) ∧ (w.alloc (.cells #[.int .u32 a, .int .u16 b, .int .u32 c, .int .u16 d] 141)).cell? ⟨w.heap.size, 2, none⟩ = some (.int .u32 c) ∧ True) := ⟨(by (repeat' (first | with_reducible exact Below.refl _ _ | with_reducible refine Below.setCell ?_ (by first | exact Nat.le_refl _ | (dsimp only; omega)) _ | with_reducible refine bstep ?_ (fresh_below _ _) | with_reducible refine Below.drew ?_))), d0.at_ 0, d0.at_ 2, trivial⟩
  go_region_held_law (fun w' => (Below w.heap.size w w' ∧ w'.cell? ⟨w.heap.size, 0, none⟩ = some (.int .u32 a) ∧ w'.cell? ⟨w.heap.size, 2, none⟩ = some (.int .u32 c) ∧ True)) (first | assumption | exact SK.out _ _ hS0 (Below.refl _ _).drew | exact SK.out _ _ hS0 (fresh_below _ _).drew | exact SK.out _ _ (by assumption) (fresh_below _ _) | (refine SK.out _ _ ?_ (by assumption); assumption))
    (first | (go_at_call 186; (with_reducible refine (F1.out _).mono ?_); rintro e wq ⟨rfl, bq⟩) | (go_at_call 186; (with_reducible refine (F2.out _).mono ?_); rintro e wq ⟨rfl, bq⟩))
  all_goals
    go_wp2
    go_ret
    exact ⟨rfl, (by first | exact FS.out _ (by assumption) | exact bstep (FS.out _ (by assumption)) (fresh_below _ _) | exact bstep (bstep (FS.out _ (by assumption)) (fresh_below _ _)) (fresh_below _ _))⟩

set_option maxHeartbeats 1000000 in
theorem rn_query (s : ByteArray) (id : Int) (w : World) (hs : s.size ≤ 140737488351232) (h : 8 ≤ s.size) (hi : 0 ≤ id ∧ id ≤ 65535) :
    Calls Tryz.prog 114 #[.string s, .int .u16 id] w (Ret (.string (S (queryOf (L s) id))) w) := by
  have b2 := be16_bd (L s) 2
  have b4 := be16_bd (L s) 4
  have hu := upd_bd b2 b4 hi
  have hl : 8 ≤ (L s).length := by rw [L_length]; exact h
  have z1 : (S (lay (L s) 4 id)).size = s.size := by rw [S_size, lay_length (by omega), L_length]
  have c1 := fun w => rn_Word s 2 w hs (by omega)
  have c2 := fun w => rn_Word s 4 w hs (by omega)
  have c3 := fun w => r_Update (be16 (L s) 2) (be16 (L s) 4) id w b2 b4 hi
  have c4 := fun w => r_Put16 id w hi.1 hi.2
  have c5 := fun w => rn_With s 4 (S (put16 id)) w hs (by rw [S_size, put16_length]; omega)
  have c6 := fun w => r_Put16 (upd (be16 (L s) 2) (be16 (L s) 4) id) w hu.1 hu.2
  have c7 := fun w => rn_With (S (lay (L s) 4 id)) 2 (S (put16 (upd (be16 (L s) 2) (be16 (L s) 4) id))) w (by omega) (by rw [S_size (put16 _), put16_length]; omega)
  rw [show (L s).take 4 ++ (L (S (put16 id)) ++ (L s).drop (4 + (S (put16 id)).size)) = lay (L s) 4 id from by rw [← List.append_assoc]; rfl] at c5
  rw [show (L (S (lay (L s) 4 id))).take 2 ++ (L (S (put16 (upd (be16 (L s) 2) (be16 (L s) 4) id))) ++ (L (S (lay (L s) 4 id))).drop (2 + (S (put16 (upd (be16 (L s) 2) (be16 (L s) 4) id))).size)) = queryOf (L s) id from by rw [L_S, ← List.append_assoc]; rfl] at c7
  rw [show ((2 : Nat) : Int) = 2 from rfl] at c1 c7
  rw [show ((4 : Nat) : Int) = 4 from rfl] at c2 c5
  obtain ⟨x, hx⟩ : ∃ x, x = be16 (L s) 2 := ⟨_, rfl⟩
  obtain ⟨y, hy⟩ : ∃ y, y = be16 (L s) 4 := ⟨_, rfl⟩
  rw [← hx] at c1 c3 c6 c7; rw [← hy] at c2 c3 c6 c7
  obtain ⟨u, hu2⟩ : ∃ u, u = upd x y id := ⟨_, rfl⟩
  rw [← hu2] at c3 c6 c7
  obtain ⟨p1, hp1⟩ : ∃ p, p = S (put16 id) := ⟨_, rfl⟩
  obtain ⟨p2, hp2⟩ : ∃ p, p = S (put16 u) := ⟨_, rfl⟩
  obtain ⟨t1, ht1⟩ : ∃ p, p = S (lay (L s) 4 id) := ⟨_, rfl⟩
  obtain ⟨t2, ht2⟩ : ∃ p, p = S (queryOf (L s) id) := ⟨_, rfl⟩
  rw [← hp1] at c4 c5; rw [← hp2] at c6 c7; rw [← ht1] at c5 c7; rw [← ht2] at c7 ⊢
  have C1 := hide c1; have C2 := hide c2; have C3 := hide c3; have C4 := hide c4; have C5 := hide c5; have C6 := hide c6; have C7 := hide c7
  clear c1 c2 c3 c4 c5 c6 c7 hx hy hu2 hp1 hp2 ht1 ht2 hu b2 b4 hl z1
  go_enter Tryz.func114, Tryz.ntmps114
  go_wp2_with fail
  (with_reducible refine (C1.out _).mono ?_)
  rintro e w1 ⟨rfl, b1⟩
  replace b1 : Below w.heap.size w w1 := by (refine bstep ?_ b1); (repeat' (first | with_reducible exact Below.refl _ _ | with_reducible refine Below.setCell ?_ (by first | exact Nat.le_refl _ | (dsimp only; omega)) _ | with_reducible refine bstep ?_ (fresh_below _ _) | with_reducible refine Below.drew ?_))
  have z1 : w.heap.size ≤ w1.heap.size := b1.size
  go_wp2_with fail
  (with_reducible refine (C2.out _).mono ?_)
  rintro e w2 ⟨rfl, b2⟩
  replace b2 : Below w.heap.size w w2 := by (refine bstep ?_ b2); (repeat' (first | with_reducible exact b1 | with_reducible exact Below.refl _ _ | with_reducible refine Below.setCell ?_ (by first | exact Nat.le_refl _ | (dsimp only; omega)) _ | with_reducible refine bstep ?_ (fresh_below _ _) | with_reducible refine Below.drew ?_))
  have z2 : w.heap.size ≤ w2.heap.size := b2.size
  go_wp2_with fail
  (with_reducible refine (C3.out _).mono ?_)
  rintro e w3 ⟨rfl, rfl⟩
  go_wp2_with fail
  (with_reducible refine (C4.out _).mono ?_)
  rintro e w4 ⟨rfl, b4⟩
  replace b4 : Below w.heap.size w w4 := by (refine bstep ?_ b4); (repeat' (first | with_reducible exact b2 | with_reducible exact Below.refl _ _ | with_reducible refine Below.setCell ?_ (by first | exact Nat.le_refl _ | (dsimp only; omega)) _ | with_reducible refine bstep ?_ (fresh_below _ _) | with_reducible refine Below.drew ?_))
  have z4 : w.heap.size ≤ w4.heap.size := b4.size
  go_wp2_with fail
  (with_reducible refine (C5.out _).mono ?_)
  rintro e w5 ⟨rfl, b5⟩
  replace b5 : Below w.heap.size w w5 := by (refine bstep ?_ b5); (repeat' (first | with_reducible exact b4 | with_reducible exact Below.refl _ _ | with_reducible refine Below.setCell ?_ (by first | exact Nat.le_refl _ | (dsimp only; omega)) _ | with_reducible refine bstep ?_ (fresh_below _ _) | with_reducible refine Below.drew ?_))
  have z5 : w.heap.size ≤ w5.heap.size := b5.size
  go_wp2_with fail
  (with_reducible refine (C6.out _).mono ?_)
  rintro e w6 ⟨rfl, b6⟩
  replace b6 : Below w.heap.size w w6 := by (refine bstep ?_ b6); (repeat' (first | with_reducible exact b5 | with_reducible exact Below.refl _ _ | with_reducible refine Below.setCell ?_ (by first | exact Nat.le_refl _ | (dsimp only; omega)) _ | with_reducible refine bstep ?_ (fresh_below _ _) | with_reducible refine Below.drew ?_))
  have z6 : w.heap.size ≤ w6.heap.size := b6.size
  go_wp2_with fail
  (with_reducible refine (C7.out _).mono ?_)
  rintro e w7 ⟨rfl, b7⟩
  replace b7 : Below w.heap.size w w7 := by (refine bstep ?_ b7); (repeat' (first | with_reducible exact b6 | with_reducible exact Below.refl _ _ | with_reducible refine Below.setCell ?_ (by first | exact Nat.le_refl _ | (dsimp only; omega)) _ | with_reducible refine bstep ?_ (fresh_below _ _) | with_reducible refine Below.drew ?_))
  have z7 : w.heap.size ≤ w7.heap.size := b7.size
  go_wp2_with fail
  go_ret
  exact ⟨rfl, (by (repeat' (first | with_reducible exact b7 | with_reducible exact Below.refl _ _ | with_reducible refine Below.setCell ?_ (by first | exact Nat.le_refl _ | (dsimp only; omega)) _ | with_reducible refine bstep ?_ (fresh_below _ _) | with_reducible refine Below.drew ?_)))⟩
end Go.Proofs.YtilfcikhipadpaaGreatDoor
end

section
/- The document's answer for rewrite (porterref09): Head, over this program. -/
set_option linter.unusedVariables false
set_option linter.unusedSimpArgs false
namespace Go.Proofs.YtilfcikhipadpaaGreatDoor
open Go.RowKit
attribute [local go_sem] Oper.semAt_some

/-- a header with its TTL one less and other addresses, and with its sum as it was -/
def headMid (H : List UInt8) (a c : Int) : List UInt8 := H.take 8 ++ lifeOf H ++ (H.drop 10).take 2 ++ ipsOf a c ++ H.drop 20

theorem headMid_1 (H : List UInt8) (h : 20 ≤ H.length) (a c : Int) : (H.take 8 ++ ([byt (at_ H 8 - 1)] ++ H.drop 9)).take 12 ++ (ipsOf a c ++ (H.take 8 ++ ([byt (at_ H 8 - 1)] ++ H.drop 9)).drop 20) = headMid H a c := by
  have h8 : (H.take 8).length = 8 := by simp; omega
  unfold headMid lifeOf
  rw [List.take_append, List.drop_append, h8]
  simp only [List.take_take, List.append_assoc]
  congr 1
  simp only [Nat.reduceSub, List.singleton_append, List.take_succ_cons, List.cons_append, List.drop_succ_cons, List.drop_drop, List.nil_append]
  rw [show (H.take 8).drop 20 = [] from by simp; omega]
  simp only [List.nil_append, Nat.reduceAdd]
  rw [show (H.drop 9).take 3 = (H.drop 9).take 1 ++ (H.drop 10).take 2 from by rw [show (3 : Nat) = 1 + 2 from rfl, List.take_add, List.drop_drop]]
  simp
theorem headMid_2 (H : List UInt8) (h : 20 ≤ H.length) (a c n : Int) : (headMid H a c).take 10 ++ (put16 n ++ (headMid H a c).drop 12) = H.take 8 ++ lifeOf H ++ put16 n ++ ipsOf a c ++ H.drop 20 := by
  have h8 : (H.take 8 ++ lifeOf H).length = 10 := by unfold lifeOf; simp; omega
  have h2 : ((H.drop 10).take 2).length = 2 := by simp; omega
  unfold headMid
  generalize H.take 8 ++ lifeOf H = X at h8 ⊢
  generalize (H.drop 10).take 2 = Y at h2 ⊢
  simp only [List.append_assoc]
  rw [List.take_append_of_le_length (by omega), List.take_of_length_le (by omega), List.drop_append, List.drop_of_length_le (by omega), List.nil_append, h8, List.drop_append_of_le_length (by omega), List.drop_of_length_le (by omega), List.nil_append]
theorem headMid_8 (H : List UInt8) (h : 20 ≤ H.length) (a c : Int) : ((headMid H a c).drop 8).take 2 = lifeOf H := by
  have h8 : (H.take 8).length = 8 := by simp; omega
  have h2 : (lifeOf H).length = 2 := by unfold lifeOf; simp; omega
  unfold headMid
  simp only [List.append_assoc]
  rw [List.drop_append_of_le_length (by omega), List.drop_of_length_le (by omega), List.nil_append, List.take_append_of_le_length (by omega), List.take_of_length_le (by omega)]
theorem headMid_12 (H : List UInt8) (h : 20 ≤ H.length) (a c : Int) : ((headMid H a c).drop 12).take 8 = ipsOf a c := by
  have h8 : (H.take 8 ++ lifeOf H ++ (H.drop 10).take 2).length = 12 := by unfold lifeOf; simp; omega
  unfold headMid
  rw [List.append_assoc, List.drop_append_of_le_length (by omega), List.drop_of_length_le (by omega), List.nil_append, List.take_append_of_le_length (by simp [show (ipsOf a c).length = 8 from rfl]), List.take_of_length_le (by simp [show (ipsOf a c).length = 8 from rfl])]
theorem headMid_length (H : List UInt8) (h : 20 ≤ H.length) (a c : Int) : (headMid H a c).length = H.length := by
  unfold headMid lifeOf
  simp [show (ipsOf a c).length = 8 from rfl]
  omega

set_option maxRecDepth 100000 in
set_option maxHeartbeats 4000000 in
theorem rn_Head_w (a b c d : Int) (s : ByteArray) (w : World) (x v n : Int) (t t1 ip t2 pn out : ByteArray) (hs : s.size ≤ 1000) (h20 : 20 ≤ s.size) (ht2 : 20 ≤ t2.size) (ht3 : t2.size ≤ 1000) (e8 : (((s[8]'(by omega)).toNat : Nat) : Int) = x) (wx : IntKind.u8.wrap (x - 1) = x - 1)
    (cv : ∀ (W : World) (g : Nat), W.cell? ⟨g, 0, none⟩ = some (.int .u8 (x - 1)) → (convert 237 9 (.slice (some ⟨g, 0, none⟩) 1 1)).run Tryz.prog W = .ok (.string t) W)
    (f1 : ∀ W, Calls Tryz.prog 117 #[.string s, .int .i64 8, .string t] W (Ret (.string t1) W))
    (f2 : ∀ W, Calls Tryz.prog 170 #[.agg #[.int .u32 a, .int .u16 b, .int .u32 c, .int .u16 d]] W (Ret (.string ip) W))
    (f3 : ∀ W, Calls Tryz.prog 117 #[.string t1, .int .i64 12, .string ip] W (Ret (.string t2) W))
    (f4 : ∀ W, Calls Tryz.prog 145 #[.string s, .int .i64 10] W (Ret (.int .u16 v) W))
    (f5 : ∀ W, Calls Tryz.prog 116 #[.int .u16 v, .string (s.extract 8 10 ++ s.extract 12 20), .string (t2.extract 8 10 ++ t2.extract 12 20)] W (Ret (.int .u16 n) W))
    (f6 : ∀ W, Calls Tryz.prog 118 #[.int .u16 n] W (Ret (.string pn) W))
    (f7 : ∀ W, Calls Tryz.prog 117 #[.string t2, .int .i64 10, .string pn] W (Ret (.string out) W)) :
    Calls Tryz.prog 112 #[.string s, .agg #[.int .u32 a, .int .u16 b, .int .u32 c, .int .u16 d]] w (Ret (.string out) w) := by
  have i1 : (20 : Int) ≤ (s.size : Int) := by omega
  have i2 : (8 : Int) < (s.size : Int) := by omega
  have i3 : (10 : Int) ≤ (s.size : Int) := by omega
  have i4 : 8 < s.size := by omega
  have j1 : (20 : Int) ≤ (t2.size : Int) := by omega
  have j3 : (10 : Int) ≤ (t2.size : Int) := by omega
  have k1 : (s.extract 8 10 ++ s.extract 12 20).size ≤ 1000 := by rw [ByteArray.size_append, ByteArray.size_extract, ByteArray.size_extract]; omega
  have k2 : (t2.extract 8 10 ++ t2.extract 12 20).size ≤ 1000 := by rw [ByteArray.size_append, ByteArray.size_extract, ByteArray.size_extract]; omega
  have F1 := hide f1; have F2 := hide f2; have F3 := hide f3; have F4 := hide f4; have F5 := hide f5; have F6 := hide f6; have F7 := hide f7
  clear f1 f2 f3 f4 f5 f6 f7
  go_enter Tryz.func112, Tryz.ntmps112
  have d0 := Cells.new w #[.int .u32 a, .int .u16 b, .int .u32 c, .int .u16 d] 141
  go_wp2_with fail
  (with_reducible refine (F1.out _).mono ?_)
  rintro e w1 ⟨rfl, b1⟩
  replace d0 := Cells.up d0 (by (repeat' (first | with_reducible exact Below.refl _ _ | with_reducible refine bstep ?_ (fresh_below _ _) | with_reducible refine Below.drew ?_))) b1
  replace b1 : Below w.heap.size w w1 := by (refine bstep ?_ b1); (repeat' (first | with_reducible exact Below.refl _ _ | with_reducible refine Below.setCell ?_ (by first | exact Nat.le_refl _ | (dsimp only; omega)) _ | with_reducible refine bstep ?_ (fresh_below _ _) | with_reducible refine Below.drew ?_))
  have z1 : w.heap.size ≤ w1.heap.size := b1.size
  obtain ⟨xd0_0, xd0_1, xd0_2, xd0_3⟩ := d0.x4
  go_wp2_with fail
  (with_reducible refine (F2.out _).mono ?_)
  rintro e w2 ⟨rfl, b2⟩
  replace b2 : Below w.heap.size w w2 := by (refine bstep ?_ b2); (repeat' (first | with_reducible exact b1 | with_reducible exact Below.refl _ _ | with_reducible refine Below.setCell ?_ (by first | exact Nat.le_refl _ | (dsimp only; omega)) _ | with_reducible refine bstep ?_ (fresh_below _ _) | with_reducible refine Below.drew ?_))
  have z2 : w.heap.size ≤ w2.heap.size := b2.size
  go_wp2_with fail
  (with_reducible refine (F3.out _).mono ?_)
  rintro e w3 ⟨rfl, b3⟩
  replace b3 : Below w.heap.size w w3 := by (refine bstep ?_ b3); (repeat' (first | with_reducible exact b2 | with_reducible exact Below.refl _ _ | with_reducible refine Below.setCell ?_ (by first | exact Nat.le_refl _ | (dsimp only; omega)) _ | with_reducible refine bstep ?_ (fresh_below _ _) | with_reducible refine Below.drew ?_))
  have z3 : w.heap.size ≤ w3.heap.size := b3.size
  go_wp2_with fail
  have SK := hide (fun (zX zY : World) (zh : (Below w.heap.size w zX ∧ True)) (zb : Below zX.heap.size zX zY) => (show (Below w.heap.size w zY ∧ True) from ⟨bstep zh.1 zb, trivial⟩))
  have FS := hide (fun (zX : World) (zh : (Below w.heap.size w zX ∧ True)) => zh.1)
  have GS := hide (fun (zX : World) (zh : (Below w.heap.size w zX ∧ True)) => zh)
  have hS0 : (Below w.heap.size w w3 ∧ True) := ⟨(by (repeat' (first | with_reducible exact b3 | with_reducible exact Below.refl _ _ | with_reducible refine Below.setCell ?_ (by first | exact Nat.le_refl _ | (dsimp only; omega)) _ | with_reducible refine bstep ?_ (fresh_below _ _) | with_reducible refine Below.drew ?_))), trivial⟩
  go_region_held_law (fun w' => (Below w.heap.size w w' ∧ True)) (first | assumption | exact SK.out _ _ hS0 (Below.refl _ _).drew | exact SK.out _ _ hS0 (fresh_below _ _).drew | exact SK.out _ _ (by assumption) (fresh_below _ _) | (refine SK.out _ _ ?_ (by assumption); assumption))
    (first | (go_at_call 145; (with_reducible refine (F4.out _).mono ?_); rintro e wq ⟨rfl, bq⟩) | (go_at_call 116; (with_reducible refine (F5.out _).mono ?_); rintro e wq ⟨rfl, bq⟩))
  all_goals
    have gb : Below w.heap.size w wq := (by first | exact FS.out _ (by assumption) | exact bstep (FS.out _ (by assumption)) (fresh_below _ _) | exact bstep (bstep (FS.out _ (by assumption)) (fresh_below _ _)) (fresh_below _ _))
    clear SK FS GS hS0
    obtain ⟨wA, rfl⟩ : ∃ W : World, W = wq := ⟨_, rfl⟩
    have bA := gb
    go_wp2_with fail
    (with_reducible refine (F6.out _).mono ?_)
    rintro e w6 ⟨rfl, b6⟩
    replace b6 : Below w.heap.size w w6 := by (refine bstep ?_ b6); (repeat' (first | with_reducible exact bA | with_reducible exact Below.refl _ _ | with_reducible refine Below.setCell ?_ (by first | exact Nat.le_refl _ | (dsimp only; omega)) _ | with_reducible refine bstep ?_ (fresh_below _ _) | with_reducible refine Below.drew ?_))
    have z6 : w.heap.size ≤ w6.heap.size := b6.size
    go_wp2_with fail
    (with_reducible refine (F7.out _).mono ?_)
    rintro e w7 ⟨rfl, b7⟩
    replace b7 : Below w.heap.size w w7 := by (refine bstep ?_ b7); (repeat' (first | with_reducible exact b6 | with_reducible exact Below.refl _ _ | with_reducible refine Below.setCell ?_ (by first | exact Nat.le_refl _ | (dsimp only; omega)) _ | with_reducible refine bstep ?_ (fresh_below _ _) | with_reducible refine Below.drew ?_))
    have z7 : w.heap.size ≤ w7.heap.size := b7.size
    go_wp2_with fail
    go_ret
    exact ⟨rfl, (by (repeat' (first | with_reducible exact b7 | with_reducible exact Below.refl _ _ | with_reducible refine Below.setCell ?_ (by first | exact Nat.le_refl _ | (dsimp only; omega)) _ | with_reducible refine bstep ?_ (fresh_below _ _) | with_reducible refine Below.drew ?_)))⟩
end Go.Proofs.YtilfcikhipadpaaGreatDoor
end
