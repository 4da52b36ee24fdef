/- Several texts of this claim, one behind the other. -/
import Derived.Test.YtilfcikhipadpaaGreatDoorK33b
import Derived.Test.YtilfcikhipadpaaGreatDoorK34b
import Derived.Test.YtilfcikhipadpaaGreatDoorK35b
import Derived.Test.YtilfcikhipadpaaGreatDoorK36b
import Derived.Test.YtilfcikhipadpaaGreatDoorK31a

section
/- Translate: the four ways, by the message's protocol, in one. -/
set_option linter.unusedVariables false
namespace Go.Proofs.YtilfcikhipadpaaGreatDoor
open Go.RowKit Go.Lib Rx
theorem et_1 (s : ByteArray) (oa ob oc od a b c d : Int) (w : World) (x0 x1 x2 x3 x4 x5 x6 x8 xr a0 a1 a3 a4 a5 a6 r m0 m1 m2 ar : Int) (x7 a2 mk qa qi : Bool) (a7 l m3 m4 out : ByteArray) (hd : m4.size ≤ 140737488351232) (ha : 0 ≤ a ∧ a ≤ 4294967295) (hb : 0 ≤ b ∧ b ≤ 65535) (hc : 0 ≤ c ∧ c ≤ 4294967295) (hd2 : 0 ≤ d ∧ d ≤ 65535) (hm2 : 0 ≤ m2 ∧ m2 ≤ 65535) (ho : xr = 0 → x5 = 3 → ar = 0 → m4.size + 28 ≤ out.size ∧ out.size ≤ 140737488351232) (c1 : ∀ W, Below w.heap.size w W → Calls Tryz.prog 27 #[.string s] W (Ret (.tuple #[.agg #[.int .u8 x0, .int .u32 x1, .int .u16 x2, .int .u32 x3, .int .u16 x4, .int .i64 x5, .int .u8 x6, .bool x7, .int .u8 x8], .int .i64 xr]) W)) (c2 : ∀ W, Below w.heap.size w W → Calls Tryz.prog 74 #[.string s] W (Ret (.tuple #[.agg #[.int .u8 a0, .int .u16 a1, .bool a2, .int .u8 a3, .int .u8 a4, .int .u32 a5, .int .u32 a6, .string a7], .string l, .int .i64 r]) W)) (c3 : ∀ W, Below w.heap.size w W → Calls Tryz.prog 136 #[.string l] W (Ret (.tuple #[.agg #[.int .u8 m0, .int .u8 m1, .int .u16 m2, .string m3, .string m4], .bool mk]) W)) (c4 : ∀ W, Below w.heap.size w W → Calls Tryz.prog 182 #[.agg #[.int .u8 (at_ (L m4) (emEnd (L m4)).toNat), .int .u8 (at_ (L m4) (emEnd (L m4) + 1).toNat), .int .u16 0, .string { data := #[] }, .string { data := #[] }]] W (Ret (.tuple #[.bool qa, .bool qi]) W)) (c6 : ∀ W, Below w.heap.size w W → Calls Tryz.prog 65 #[.string s, .agg #[.int .u32 oa, .int .u16 ob, .int .u32 oc, .int .u16 od]] W (Ret (.tuple #[.string out, .int .i64 ar]) W)) : Calls Tryz.prog 66 #[.string s, .agg #[.int .u32 oa, .int .u16 ob, .int .u32 oc, .int .u16 od], .agg #[.int .u32 a, .int .u16 b, .int .u32 c, .int .u16 d]] w (Ret (et_1_v x0 x1 x2 x3 x4 x5 x6 x8 xr a0 a1 a3 a4 a5 a6 r m0 m1 m2 ar x7 a2 mk qa qi a7 l m3 m4 out s oa ob oc od a b c d) w) := by
  by_cases h6 : at_ (L m4) 9 = 6
  · exact et_6 s oa ob oc od a b c d w x0 x1 x2 x3 x4 x5 x6 x8 xr a0 a1 a3 a4 a5 a6 r m0 m1 m2 ar x7 a2 mk qa qi a7 l m3 m4 out hd ha hb hc hd2 hm2 ho c1 c2 c3 c4 c6 h6
  by_cases h17 : at_ (L m4) 9 = 17
  · exact et_17 s oa ob oc od a b c d w x0 x1 x2 x3 x4 x5 x6 x8 xr a0 a1 a3 a4 a5 a6 r m0 m1 m2 ar x7 a2 mk qa qi a7 l m3 m4 out hd ha hb hc hd2 hm2 ho c1 c2 c3 c4 c6 h17
  by_cases h1 : at_ (L m4) 9 = 1
  · by_cases hq : qa = true
    · exact et_ma s oa ob oc od a b c d w x0 x1 x2 x3 x4 x5 x6 x8 xr a0 a1 a3 a4 a5 a6 r m0 m1 m2 ar x7 a2 mk qa qi a7 l m3 m4 out hd ha hb hc hd2 hm2 ho c1 c2 c3 c4 c6 ⟨h1, hq⟩
    · exact et_mb s oa ob oc od a b c d w x0 x1 x2 x3 x4 x5 x6 x8 xr a0 a1 a3 a4 a5 a6 r m0 m1 m2 ar x7 a2 mk qa qi a7 l m3 m4 out hd ha hb hc hd2 hm2 ho c1 c2 c3 c4 c6 ⟨h1, by simpa using hq⟩
  · exact et_o s oa ob oc od a b c d w x0 x1 x2 x3 x4 x5 x6 x8 xr a0 a1 a3 a4 a5 a6 r m0 m1 m2 ar x7 a2 mk qa qi a7 l m3 m4 out hd ha hb hc hd2 hm2 ho c1 c2 c3 c4 c6 ⟨h6, h17, h1⟩
end Go.Proofs.YtilfcikhipadpaaGreatDoor
end

section
/- Translate: the printed names are the law's. Plain. -/
set_option linter.unusedVariables false
set_option linter.unusedSimpArgs false
namespace Go.Proofs.YtilfcikhipadpaaGreatDoor
open Go.RowKit
theorem tEnd (l : List UInt8) (h : 20 ≤ emEnd l) : emEnd l = (emAt l : Nat) := by unfold emAt; omega
theorem tN_is {m : ByteArray} {a b c d : Int} (k : Nat) (h1 : 20 ≤ emEnd (L m)) (h2 : emEnd (L m) + 8 ≤ m.size) (hp : at_ (L m) 9 = 6 ∨ at_ (L m) 9 = 17) :
    tN m a b c d k = emFlowN (emMid (L m) a c) (emAt (L m)) (emTup (L m)) a b c d k := by
  have hl : (L m).length = m.size := L_length m
  have e := tEnd (L m) h1
  have g1 : get32 (L m) 12 = be32 (L m) 12 := get32_nat (k := 12) (by omega)
  have g2 : get32 (L m) 16 = be32 (L m) 16 := get32_nat (k := 16) (by omega)
  have g3 : get16 (L m) (emEnd (L m)) = be16 (L m) (emAt (L m)) := by rw [e]; exact get16_nat (by omega)
  have g4 : get16 (L m) (emEnd (L m) + 2) = be16 (L m) (emAt (L m) + 2) := by rw [e]; exact get16_nat (k := emAt (L m) + 2) (by omega)
  have e5 : emEnd (L m) + (k : Int) = ((emAt (L m) + k : Nat) : Int) := by rw [e]; omega
  unfold tN emFlowN tWas tNow tS3 emTup
  rw [if_pos hp, e5, g1, g2, g3, g4]
  rfl
/-- tcp: with room for the sum, or without -/
theorem tNew_6 {m : ByteArray} {a b c d : Int} (h1 : 20 ≤ emEnd (L m)) (h2 : emEnd (L m) + 8 ≤ m.size) (hp : at_ (L m) 9 = 6) :
    S (emNew (L m) a b c d) = if emAt (L m) + 18 ≤ m.size then tL m a b c d 16 (tN m a b c d 16) else tS3 m a b c d := by
  have hl : (L m).length = m.size := L_length m
  have e := tEnd (L m) h1
  have e5 : (emEnd (L m) + 16).toNat = emAt (L m) + 16 := by rw [e]; omega
  have hM : (emMid (L m) a c).length = m.size := by rw [emMid_len (by omega)]; exact hl
  have q := tN_is (a := a) (b := b) (c := c) (d := d) 16 h1 h2 (Or.inl hp)
  have hp' : (emTup (L m)).p = 6 := by rw [emTup_p]; exact hp
  unfold emNew emCh
  rw [if_pos hp']
  unfold emFlow tL
  rw [if_neg (by rw [hp']; rintro ⟨h, -⟩; cases h), hM, e5, if_neg (c := (emTup (L m)).p = 17 ∧ _) (by rw [hp']; rintro ⟨h, -⟩; cases h)]
  have q' : tN m a b c d 16 = emFlowN (emMid (L m) a c) (emAt (L m)) (emTup (L m)) a b c d 16 := q
  rw [q']
  split
  · rfl
  · rfl
/-- udp: no sum, sum 0 told as 65535, sum -/
theorem tNew_17 {m : ByteArray} {a b c d : Int} (h1 : 20 ≤ emEnd (L m)) (h2 : emEnd (L m) + 8 ≤ m.size) (hp : at_ (L m) 9 = 17) :
    S (emNew (L m) a b c d) = if get16 (L (tS3 m a b c d)) (emEnd (L m) + 6) = 0 then tS3 m a b c d else tL m a b c d 6 (if tN m a b c d 6 = 0 then 65535 else tN m a b c d 6) := by
  have hl : (L m).length = m.size := L_length m
  have e := tEnd (L m) h1
  have e5 : (emEnd (L m) + 6).toNat = emAt (L m) + 6 := by rw [e]; omega
  have e6 : emEnd (L m) + 6 = ((emAt (L m) + 6 : Nat) : Int) := by rw [e]; omega
  have hM : (emMid (L m) a c).length = m.size := by rw [emMid_len (by omega)]; exact hl
  have q' : tN m a b c d 6 = emFlowN (emMid (L m) a c) (emAt (L m)) (emTup (L m)) a b c d 6 := tN_is (a := a) (b := b) (c := c) (d := d) 6 h1 h2 (Or.inr hp)
  have hp' : (emTup (L m)).p = 17 := by rw [emTup_p]; exact hp
  unfold emNew emCh
  rw [if_neg (by rw [hp']; decide), if_pos hp']
  unfold emFlow tL
  rw [hM, e5, e6, q']
  have r : get16 (L (tS3 m a b c d)) ((emAt (L m) + 6 : Nat) : Int) = get16 (emFlowL (emMid (L m) a c) (emAt (L m)) b d) ((emAt (L m) + 6 : Nat) : Int) := rfl
  rw [r]
  simp only [hp', true_and, if_pos (show emAt (L m) + 6 + 2 ≤ m.size by omega)]
  split
  · rfl
  · rfl
/-- icmp: the query's ID -/
theorem tNew_1 {m : ByteArray} {a b c d : Int} (h1 : 20 ≤ emEnd (L m)) (h2 : emEnd (L m) + 8 ≤ m.size) (hp : at_ (L m) 9 = 1) :
    S (emNew (L m) a b c d) = tS6 m a c (if emAsk (L m) = true then b else d) := by
  have hl : (L m).length = m.size := L_length m
  have e := tEnd (L m) h1
  have hM : (emMid (L m) a c).length = m.size := by rw [emMid_len (by omega)]; exact hl
  have hp' : (emTup (L m)).p = 1 := by rw [emTup_p]; exact hp
  have e2 : (emEnd (L m) + 2).toNat = emAt (L m) + 2 := by rw [e]; omega
  have e4 : (emEnd (L m) + 4).toNat = emAt (L m) + 4 := by rw [e]; omega
  have g2 : get16 (L (tS2 m a c)) (emEnd (L m) + 2) = be16 (emMid (L m) a c) (emAt (L m) + 2) := by rw [e]; exact get16_nat (l := emMid (L m) a c) (k := emAt (L m) + 2) (by omega)
  have g4 : get16 (L (tS2 m a c)) (emEnd (L m) + 4) = be16 (emMid (L m) a c) (emAt (L m) + 4) := by rw [e]; exact get16_nat (l := emMid (L m) a c) (k := emAt (L m) + 4) (by omega)
  unfold emNew emCh
  rw [if_neg (by rw [hp']; decide), if_neg (by rw [hp']; decide)]
  unfold emMsgN tS6 tM
  rw [g2, g4]
  unfold tS5
  rw [e2, e4]
  rfl
theorem trNew_is {s : ByteArray} {oa ob oc od a b c d : Int} :
    tO2 (rwOut s oa ob oc od) (emData s) (S (emNew (L (emData s)) a b c d)) (msgOf (ipRest s)).n = S (trNew s oa ob oc od a b c d) := by
  unfold tO2 trNew tO1 tSum emSum
  have x : ∀ (z : ByteArray) (k : Nat), L (z.extract 0 k) = (L z).take k := fun z k => by
    rw [L_extract]; simp
  rw [x, x, L_S, L_S]
  rfl
/-- all ways in one -/
theorem et_1_is {x0 x1 x2 x3 x4 x5 x6 x8 xr a0 a1 a3 a4 a5 a6 r m0 m1 m2 ar : Int} {x7 a2 mk qa qi : Bool} {a7 l m3 m out s : ByteArray} {oa ob oc od a b c d : Int} (hi : qi = qIs (emMsg (L m))) (ha : qa = qAsk (emMsg (L m))) {w : Int} (hw : w = if xr ≠ 0 then xr else if x5 ≠ 3 then 15 else if emWhy (L m) ≠ 0 then emWhy (L m) else ar) :
    et_1_v x0 x1 x2 x3 x4 x5 x6 x8 xr a0 a1 a3 a4 a5 a6 r m0 m1 m2 ar x7 a2 mk qa qi a7 l m3 m out s oa ob oc od a b c d = .tuple #[.string (if w = 0 then tO2 out m (S (emNew (L m) a b c d)) m2 else { data := #[] }), .int .i64 w] := by
  have hl : (L m).length = m.size := L_length m
  unfold et_1_v
  have T : ∀ v : Int, v ≠ 0 → w = v → (.tuple #[.string { data := #[] }, .int .i64 v] : Value) = .tuple #[.string (if w = 0 then tO2 out m (S (emNew (L m) a b c d)) m2 else { data := #[] }), .int .i64 w] := fun v hv e => by rw [e, if_neg hv]
  by_cases e1 : xr = 0
  · have q1 : (xr != 0) = false := by simpa using e1
    rw [if_neg (by simpa using e1)] at hw
    rw [q1, cond_false]
    by_cases e2 : x5 = 3
    · have q2 : (x5 != 3) = false := by simpa using e2
      rw [if_neg (by simpa using e2)] at hw
      rw [q2, cond_false]
      have V : ∀ v : Int, v ≠ 0 → emWhy (L m) = v → w = v := fun v hv h => by rw [hw, if_pos (by rw [h]; exact hv), h]
      have Z : emWhy (L m) = 0 → w = ar := fun h => by rw [hw, if_neg (by rw [h]; simp)]
      by_cases f1 : (m.size : Int) < 20
      · rw [decide_eq_true f1, cond_true]
        exact T 15 (by decide) (V 15 (by decide) (by unfold emWhy; rw [if_pos (Or.inl (by rw [hl]; exact f1))]))
      rw [decide_eq_false f1, cond_false]
      by_cases f2 : at_ (L m) 0 / 16 = 4
      rotate_left
      · rw [show (at_ (L m) 0 / 16 != 4) = true by simpa using f2, cond_true]
        exact T 15 (by decide) (V 15 (by decide) (by unfold emWhy; rw [if_pos (Or.inr f2)]))
      rw [show (at_ (L m) 0 / 16 != 4) = false by simpa using f2, cond_false]
      have A1 : ¬ (((L m).length : Int) < 20 ∨ at_ (L m) 0 / 16 ≠ 4) := by rw [hl]; rintro (h | h); exact f1 h; exact h f2
      by_cases f3 : emEnd (L m) < 20
      · rw [decide_eq_true f3, cond_true]
        exact T 15 (by decide) (V 15 (by decide) (by unfold emWhy; rw [if_neg A1, if_pos (Or.inl f3)]))
      rw [decide_eq_false f3, cond_false]
      by_cases f4 : (m.size : Int) - 8 < emEnd (L m)
      · rw [decide_eq_true f4, cond_true]
        exact T 15 (by decide) (V 15 (by decide) (by unfold emWhy; rw [if_neg A1, if_pos (Or.inr (Or.inl (by rw [hl]; exact f4)))]))
      rw [decide_eq_false f4, cond_false]
      have g6 : get16 (L m) 6 = be16 (L m) 6 := get16_nat (k := 6) (by omega)
      rw [g6]
      by_cases f5 : be16 (L m) 6 % 8192 = 0
      rotate_left
      · rw [show (be16 (L m) 6 % 8192 != 0) = true by simpa using f5, cond_true]
        exact T 15 (by decide) (V 15 (by decide) (by unfold emWhy; rw [if_neg A1, if_pos (Or.inr (Or.inr f5))]))
      rw [show (be16 (L m) 6 % 8192 != 0) = false by simpa using f5, cond_false]
      have A2 : ¬ (emEnd (L m) < 20 ∨ ((L m).length : Int) - 8 < emEnd (L m) ∨ be16 (L m) 6 % 8192 ≠ 0) := by rw [hl]; rintro (h | h | h); exact f3 h; exact f4 h; exact h f5
      have h1 : 20 ≤ emEnd (L m) := by omega
      have h2 : emEnd (L m) + 8 ≤ m.size := by omega
      have Y : ∀ X : ByteArray, emWhy (L m) = 0 → X = S (emNew (L m) a b c d) → ar = 0 → (.tuple #[.string (tO2 out m X m2), .int .i64 0] : Value) = .tuple #[.string (if w = 0 then tO2 out m (S (emNew (L m) a b c d)) m2 else { data := #[] }), .int .i64 w] := fun X hz e z => by rw [Z hz, z, if_pos rfl, e]
      have R : emWhy (L m) = 0 → ar ≠ 0 → (.tuple #[.string { data := #[] }, .int .i64 ar] : Value) = .tuple #[.string (if w = 0 then tO2 out m (S (emNew (L m) a b c d)) m2 else { data := #[] }), .int .i64 w] := fun hz z => T ar z (Z hz)
      have e := tEnd (L m) h1
      have sz : (tS3 m a b c d).size = m.size := tS3_size (by omega) h1 h2
      by_cases k6 : at_ (L m) 9 = 6
      · have W0 : emWhy (L m) = 0 := by unfold emWhy; rw [if_neg A1, if_neg A2, if_pos (Or.inl k6)]
        rw [show (at_ (L m) 9 == 6) = true by simpa using k6, cond_true]
        by_cases z : ar = 0
        · have N := tNew_6 (a := a) (b := b) (c := c) (d := d) h1 h2 k6
          rw [show (ar != 0) = false by simpa using z, cond_false, show (at_ (L m) 9 == 17) = false by rw [k6]; rfl, cond_false]
          by_cases u : emEnd (L m) + 16 + 2 ≤ ((tS3 m a b c d).size : Int)
          · rw [decide_eq_true u, cond_true]; exact Y _ W0 (by rw [N, if_pos (by omega)]) z
          · rw [decide_eq_false u, cond_false]; exact Y _ W0 (by rw [N, if_neg (by omega)]) z
        · rw [show (ar != 0) = true by simpa using z, cond_true]; exact R W0 z
      rw [show (at_ (L m) 9 == 6) = false by simpa using k6, cond_false]
      by_cases k17 : at_ (L m) 9 = 17
      · have W0 : emWhy (L m) = 0 := by unfold emWhy; rw [if_neg A1, if_neg A2, if_pos (Or.inr k17)]
        rw [show (at_ (L m) 9 == 17) = true by simpa using k17, cond_true]
        by_cases z : ar = 0
        · have N := tNew_17 (a := a) (b := b) (c := c) (d := d) h1 h2 k17
          rw [show (ar != 0) = false by simpa using z, cond_false]
          by_cases u : get16 (L (tS3 m a b c d)) (emEnd (L m) + 6) = 0
          · rw [show (get16 (L (tS3 m a b c d)) (emEnd (L m) + 6) == 0) = true by simpa using u, cond_true]
            exact Y _ W0 (by rw [N, if_pos u]) z
          rw [show (get16 (L (tS3 m a b c d)) (emEnd (L m) + 6) == 0) = false by simpa using u, cond_false]
          have d2 : decide (emEnd (L m) + 6 + 2 ≤ ((tS3 m a b c d).size : Int)) = true := decide_eq_true (by omega)
          by_cases v : tN m a b c d 6 = 0
          · rw [show (tN m a b c d 6 == 0) = true by simpa using v, cond_true, d2, cond_true]
            exact Y _ W0 (by rw [N, if_neg u, if_pos v]) z
          · rw [show (tN m a b c d 6 == 0) = false by simpa using v, cond_false, d2, cond_true]
            exact Y _ W0 (by rw [N, if_neg u, if_neg v]) z
        · rw [show (ar != 0) = true by simpa using z, cond_true]; exact R W0 z
      rw [show (at_ (L m) 9 == 17) = false by simpa using k17, cond_false]
      have A3 : ¬ (at_ (L m) 9 = 6 ∨ at_ (L m) 9 = 17) := by rintro (h | h); exact k6 h; exact k17 h
      by_cases k1 : at_ (L m) 9 = 1
      · rw [show (at_ (L m) 9 == 1) = true by simpa using k1, cond_true]
        have K : emAsk (L m) = qa := by unfold emAsk; rw [decide_eq_true k1, Bool.true_and, ha]
        have N := tNew_1 (a := a) (b := b) (c := c) (d := d) h1 h2 k1
        rw [K] at N
        cases q : qi
        · rw [cond_false]
          exact T 15 (by decide) (V 15 (by decide) (by unfold emWhy; rw [if_neg A1, if_neg A2, if_neg A3, if_neg (by simpa using k1), if_neg (by rw [← hi, q]; decide)]))
        · have W0 : emWhy (L m) = 0 := by unfold emWhy; rw [if_neg A1, if_neg A2, if_neg A3, if_neg (by simpa using k1), if_pos (by rw [← hi, q])]
          rw [cond_true]
          by_cases z : ar = 0
          · rw [show (ar != 0) = false by simpa using z]
            cases qq : qa
            · exact Y _ W0 (by rw [N, qq]; rfl) z
            · exact Y _ W0 (by rw [N, qq]; rfl) z
          · rw [show (ar != 0) = true by simpa using z]
            cases qq : qa
            · exact R W0 z
            · exact R W0 z
      · rw [show (at_ (L m) 9 == 1) = false by simpa using k1, cond_false]
        exact T 6 (by decide) (V 6 (by decide) (by unfold emWhy; rw [if_neg A1, if_neg A2, if_neg A3, if_pos k1]))
    · rw [if_pos e2] at hw
      rw [show (x5 != 3) = true by simpa using e2, cond_true]
      exact T 15 (by decide) hw
  · rw [if_pos e1] at hw
    rw [show (xr != 0) = true by simpa using e1, cond_true]
    exact T xr e1 hw
end Go.Proofs.YtilfcikhipadpaaGreatDoor
end

section
/- embeds.Translate: an error and what it is about, both changed: the program's, whole. -/
set_option linter.unusedVariables false
set_option linter.unusedSimpArgs false
namespace Go.Proofs.YtilfcikhipadpaaGreatDoor
open Go.RowKit Go.Lib Rx
theorem tr_whyIs {s : ByteArray} {m : Msg} (hm : 8 ≤ (ipRest s).size → m = msgOf (ipRest s)) : trWhy s = if seenWhy s ≠ 0 then seenWhy s else if (seenOf s).k ≠ 3 then 15 else if emWhy (L m.d) ≠ 0 then emWhy (L m.d) else rwWhy s := by
  unfold trWhy emsWhy
  by_cases h : seenWhy s ≠ 0
  · simp only [if_pos h]
  · simp only [if_neg h]
    by_cases k : (seenOf s).k ≠ 3
    · simp only [if_pos k]; rfl
    · simp only [if_neg k]
      rw [hm (msg_is (by omega) (by omega))]
      rfl
theorem e_Translate (oa ob oc od a b c d : Int) (s : ByteArray) (w : World) (K0 : Kinds w) (hoa : 0 ≤ oa ∧ oa ≤ 4294967295) (hob : 0 ≤ ob ∧ ob ≤ 65535) (hoc : 0 ≤ oc ∧ oc ≤ 4294967295) (hod : 0 ≤ od ∧ od ≤ 65535) (ha : 0 ≤ a ∧ a ≤ 4294967295) (hb : 0 ≤ b ∧ b ≤ 65535) (hc : 0 ≤ c ∧ c ≤ 4294967295) (hd : 0 ≤ d ∧ d ≤ 65535) (hs : s.size ≤ 140737488351232) :
    Calls Tryz.prog 66 #[.string s, .agg #[.int .u32 oa, .int .u16 ob, .int .u32 oc, .int .u16 od], .agg #[.int .u32 a, .int .u16 b, .int .u32 c, .int .u16 d]] w (Ret (.tuple #[.string (trOut s oa ob oc od a b c d), .int .i64 (trWhy s)]) w) := by
  obtain ⟨m, hm, mo, c4, _⟩ := msg_any (ipRest s) (rest_sz hs)
  have cq := fun W (b : Below w.heap.size w W) => i_Query (emMsg (L m.d)) W (emMsg_ok m.d) (K0.below b)
  rw [emMsg_at] at cq
  have zo : seenWhy s = 0 → (seenOf s).k = 3 → rwWhy s = 0 → m.d.size + 28 ≤ (rwOut s oa ob oc od).size ∧ (rwOut s oa ob oc od).size ≤ 140737488351232 := fun h1 h2 h3 => by
    obtain ⟨k, _, k1, k2, k3, k4, _⟩ := tr_size0 (a := oa) (b := ob) (c := oc) (d := od) h1 h2 h3 hoa hob hoc hod
    have e : m.d = emData s := by rw [hm (msg_is h1 h2)]; rfl
    rw [e]; omega
  have k := et_1 s oa ob oc od a b c d w _ _ _ _ _ _ _ _ _ _ _ _ _ _ _ _ _ _ _ _ _ _ _ _ _ _ _ _ _ _ mo.2.2.2.2 ha hb hc hd mo.2.2.1 zo (fun W b => tu_Of s W (K0.below b) hs) (fun W _ => ip_Parse s W hs) (fun W _ => c4 W) cq (fun W b => rw_Apply oa ob oc od s W (K0.below b) hoa hob hoc hod hs)
  rw [← emMsg_at, et_1_is rfl rfl (tr_whyIs hm)] at k
  have e : (if trWhy s = 0 then tO2 (rwOut s oa ob oc od) m.d (S (emNew (L m.d) a b c d)) m.n else { data := #[] }) = trOut s oa ob oc od a b c d := by
    unfold trOut
    by_cases h : trWhy s = 0
    · rw [if_pos h, if_pos h]
      have hw := tr_whyIs hm
      rw [h] at hw
      by_cases h1 : seenWhy s = 0
      rotate_left
      · rw [if_pos h1] at hw; exact absurd hw.symm h1
      by_cases h2 : (seenOf s).k = 3
      rotate_left
      · rw [if_neg (by omega), if_pos h2] at hw; exact absurd hw (by decide)
      rw [hm (msg_is h1 h2)]
      exact trNew_is
    · rw [if_neg h, if_neg h]
  rw [e] at k
  exact k
end Go.Proofs.YtilfcikhipadpaaGreatDoor
end

section
/- What an error is about, changed, as the document says. Plain. -/
set_option linter.unusedVariables false
set_option linter.unusedSimpArgs false
namespace Go.Proofs.YtilfcikhipadpaaGreatDoor
open Go.RowKit

/-- the inner bytes by a change, as the document says -/
def crOf (l ips : List UInt8) (p : Int) (q : Bool) (a b c d : Int) : List UInt8 :=
  if p = 17 then flowNew l ips a b c d 6 else if p = 6 ∧ 18 ≤ l.length then flowNew l ips a b c d 16 else if p = 6 then putW [b, d] ++ l.drop 4 else queryOf l (if q = true then b else d)
/-- the inner header by a change: its addresses; then its sum -/
def dtHd (l : List UInt8) (a c : Int) : List UInt8 := (l.take (emAt l)).take 12 ++ (ipsOf a c ++ (l.take (emAt l)).drop 20)
def dtSum (l : List UInt8) (a c : Int) : Int := updates (be16 l 10) ((l.drop 12).take 8) (((dtHd l a c).drop 12).take 8)
def dtOf (l : List UInt8) (a b c d : Int) : List UInt8 :=
  (dtHd l a c).take 10 ++ (put16 (dtSum l a c) ++ (dtHd l a c).drop 12) ++ crOf (l.drop (emAt l)) ((l.drop 12).take 8) (emTup l).p (emAsk l) a b c d
theorem crOf_len {l ips : List UInt8} {p : Int} {q : Bool} {a b c d : Int} (h : 8 ≤ l.length) : (crOf l ips p q a b c d).length = l.length := by
  unfold crOf
  split
  · unfold flowNew
    rw [lay_length (by rw [List.length_append, List.length_drop, putW2_len]; omega), List.length_append, List.length_drop, putW2_len]; omega
  · split
    · unfold flowNew
      rw [lay_length (by rw [List.length_append, List.length_drop, putW2_len]; omega), List.length_append, List.length_drop, putW2_len]; omega
    · split
      · rw [List.length_append, List.length_drop, putW2_len]; omega
      · unfold queryOf
        rw [lay_length (by rw [lay_length (by omega)]; omega), lay_length (by omega)]
end Go.Proofs.YtilfcikhipadpaaGreatDoor
end
