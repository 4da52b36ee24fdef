/- Several texts of this claim, one behind the other. -/
import Derived.Test.YtilfcikhipadpaaGreatDoorK40c
import Derived.Test.YtilfcikhipadpaaGreatDoorK41c
import Derived.Test.YtilfcikhipadpaaGreatDoorK42b
import Derived.Test.YtilfcikhipadpaaGreatDoorK43b
import Derived.Test.YtilfcikhipadpaaGreatDoorK38d

section
/- Translate: the four ways, by the message's protocol, in one. -/
set_option linter.unusedVariables false
namespace Go.Proofs.YtilfcikhipadpaaGreatDoor
open Go.RowKit Go.Lib Rx
theorem et_1 (s : ByteArray) (oa ob oc od a b c d : Int) (w : World) (x0 x1 x2 x3 x4 x5 x6 x8 xr a0 a1 a3 a4 a5 a6 r m0 m1 m2 ar : Int) (x7 a2 mk qa qi : Bool) (a7 l m3 m4 out : ByteArray) (hd : m4.size ≤ 140737488351232) (ha : 0 ≤ a ∧ a ≤ 4294967295) (hb : 0 ≤ b ∧ b ≤ 65535) (hc : 0 ≤ c ∧ c ≤ 4294967295) (hd2 : 0 ≤ d ∧ d ≤ 65535) (hm2 : 0 ≤ m2 ∧ m2 ≤ 65535) (ho : xr = 0 → x5 = 3 → ar = 0 → m4.size + 28 ≤ out.size ∧ out.size ≤ 140737488351232) (c1 : ∀ W, Below w.heap.size w W → Calls Tryz.prog 27 #[.string s] W (Ret (.tuple #[.agg #[.int .u8 x0, .int .u32 x1, .int .u16 x2, .int .u32 x3, .int .u16 x4, .int .i64 x5, .int .u8 x6, .bool x7, .int .u8 x8], .int .i64 xr]) W)) (c2 : ∀ W, Below w.heap.size w W → Calls Tryz.prog 74 #[.string s] W (Ret (.tuple #[.agg #[.int .u8 a0, .int .u16 a1, .bool a2, .int .u8 a3, .int .u8 a4, .int .u32 a5, .int .u32 a6, .string a7], .string l, .int .i64 r]) W)) (c3 : ∀ W, Below w.heap.size w W → Calls Tryz.prog 136 #[.string l] W (Ret (.tuple #[.agg #[.int .u8 m0, .int .u8 m1, .int .u16 m2, .string m3, .string m4], .bool mk]) W)) (c4 : ∀ W, Below w.heap.size w W → Calls Tryz.prog 182 #[.agg #[.int .u8 (at_ (L m4) (emEnd (L m4)).toNat), .int .u8 (at_ (L m4) (emEnd (L m4) + 1).toNat), .int .u16 0, .string { data := #[] }, .string { data := #[] }]] W (Ret (.tuple #[.bool qa, .bool qi]) W)) (c6 : ∀ W, Below w.heap.size w W → Calls Tryz.prog 65 #[.string s, .agg #[.int .u32 oa, .int .u16 ob, .int .u32 oc, .int .u16 od]] W (Ret (.tuple #[.string out, .int .i64 ar]) W)) : Calls Tryz.prog 66 #[.string s, .agg #[.int .u32 oa, .int .u16 ob, .int .u32 oc, .int .u16 od], .agg #[.int .u32 a, .int .u16 b, .int .u32 c, .int .u16 d]] w (Ret (et_1_v x0 x1 x2 x3 x4 x5 x6 x8 xr a0 a1 a3 a4 a5 a6 r m0 m1 m2 ar x7 a2 mk qa qi a7 l m3 m4 out s oa ob oc od a b c d) w) := by
  by_cases h6 : at_ (L m4) 9 = 6
  · exact et_6 s oa ob oc od a b c d w x0 x1 x2 x3 x4 x5 x6 x8 xr a0 a1 a3 a4 a5 a6 r m0 m1 m2 ar x7 a2 mk qa qi a7 l m3 m4 out hd ha hb hc hd2 hm2 ho c1 c2 c3 c4 c6 h6
  by_cases h17 : at_ (L m4) 9 = 17
  · exact et_17 s oa ob oc od a b c d w x0 x1 x2 x3 x4 x5 x6 x8 xr a0 a1 a3 a4 a5 a6 r m0 m1 m2 ar x7 a2 mk qa qi a7 l m3 m4 out hd ha hb hc hd2 hm2 ho c1 c2 c3 c4 c6 h17
  by_cases h1 : at_ (L m4) 9 = 1
  · by_cases hq : qa = true
    · exact et_ma s oa ob oc od a b c d w x0 x1 x2 x3 x4 x5 x6 x8 xr a0 a1 a3 a4 a5 a6 r m0 m1 m2 ar x7 a2 mk qa qi a7 l m3 m4 out hd ha hb hc hd2 hm2 ho c1 c2 c3 c4 c6 ⟨h1, hq⟩
    · exact et_mb s oa ob oc od a b c d w x0 x1 x2 x3 x4 x5 x6 x8 xr a0 a1 a3 a4 a5 a6 r m0 m1 m2 ar x7 a2 mk qa qi a7 l m3 m4 out hd ha hb hc hd2 hm2 ho c1 c2 c3 c4 c6 ⟨h1, by simpa using hq⟩
  · exact et_o s oa ob oc od a b c d w x0 x1 x2 x3 x4 x5 x6 x8 xr a0 a1 a3 a4 a5 a6 r m0 m1 m2 ar x7 a2 mk qa qi a7 l m3 m4 out hd ha hb hc hd2 hm2 ho c1 c2 c3 c4 c6 ⟨h6, h17, h1⟩
end Go.Proofs.YtilfcikhipadpaaGreatDoor
end

section
/- Translate: the printed names are the law's. Plain. -/
set_option linter.unusedVariables false
set_option linter.unusedSimpArgs false
namespace Go.Proofs.YtilfcikhipadpaaGreatDoor
open Go.RowKit
theorem tEnd (l : List UInt8) (h : 20 ≤ emEnd l) : emEnd l = (emAt l : Nat) := by unfold emAt; omega
theorem tN_is {m : ByteArray} {a b c d : Int} (k : Nat) (h1 : 20 ≤ emEnd (L m)) (h2 : emEnd (L m) + 8 ≤ m.size) (hp : at_ (L m) 9 = 6 ∨ at_ (L m) 9 = 17) :
    tN m a b c d k = emFlowN (emMid (L m) a c) (emAt (L m)) (emTup (L m)) a b c d k := by
  have hl : (L m).length = m.size := L_length m
  have e := tEnd (L m) h1
  have g1 : get32 (L m) 12 = be32 (L m) 12 := get32_nat (k := 12) (by omega)
  have g2 : get32 (L m) 16 = be32 (L m) 16 := get32_nat (k := 16) (by omega)
  have g3 : get16 (L m) (emEnd (L m)) = be16 (L m) (emAt (L m)) := by rw [e]; exact get16_nat (by omega)
  have g4 : get16 (L m) (emEnd (L m) + 2) = be16 (L m) (emAt (L m) + 2) := by rw [e]; exact get16_nat (k := emAt (L m) + 2) (by omega)
  have e5 : emEnd (L m) + (k : Int) = ((emAt (L m) + k : Nat) : Int) := by rw [e]; omega
  unfold tN emFlowN tWas tNow tS3 emTup
  rw [if_pos hp, e5, g1, g2, g3, g4]
  rfl
/-- tcp: with room for the sum, or without -/
theorem tNew_6 {m : ByteArray} {a b c d : Int} (h1 : 20 ≤ emEnd (L m)) (h2 : emEnd (L m) + 8 ≤ m.size) (hp : at_ (L m) 9 = 6) :
    S (emNew (L m) a b c d) = if emAt (L m) + 18 ≤ m.size then tL m a b c d 16 (tN m a b c d 16) else tS3 m a b c d := by
  have hl : (L m).length = m.size := L_length m
  have e := tEnd (L m) h1
  have e5 : (emEnd (L m) + 16).toNat = emAt (L m) + 16 := by rw [e]; omega
  have hM : (emMid (L m) a c).length = m.size := by rw [emMid_len (by omega)]; exact hl
  have q := tN_is (a := a) (b := b) (c := c) (d := d) 16 h1 h2 (Or.inl hp)
  have hp' : (emTup (L m)).p = 6 := by rw [emTup_p]; exact hp
  unfold emNew emCh
  rw [if_pos hp']
  unfold emFlow tL
  rw [if_neg (by rw [hp']; rintro ⟨h, -⟩; cases h), hM, e5, if_neg (c := (emTup (L m)).p = 17 ∧ _) (by rw [hp']; rintro ⟨h, -⟩; cases h)]
  have q' : tN m a b c d 16 = emFlowN (emMid (L m) a c) (emAt (L m)) (emTup (L m)) a b c d 16 := q
  rw [q']
  split
  · rfl
  · rfl
/-- udp: no sum, sum 0 told as 65535, sum -/
theorem tNew_17 {m : ByteArray} {a b c d : Int} (h1 : 20 ≤ emEnd (L m)) (h2 : emEnd (L m) + 8 ≤ m.size) (hp : at_ (L m) 9 = 17) :
    S (emNew (L m) a b c d) = if get16 (L (tS3 m a b c d)) (emEnd (L m) + 6) = 0 then tS3 m a b c d else tL m a b c d 6 (if tN m a b c d 6 = 0 then 65535 else tN m a b c d 6) := by
  have hl : (L m).length = m.size := L_length m
  have e := tEnd (L m) h1
  have e5 : (emEnd (L m) + 6).toNat = emAt (L m) + 6 := by rw [e]; omega
  have e6 : emEnd (L m) + 6 = ((emAt (L m) + 6 : Nat) : Int) := by rw [e]; omega
  have hM : (emMid (L m) a c).length = m.size := by rw [emMid_len (by omega)]; exact hl
  have q' : tN m a b c d 6 = emFlowN (emMid (L m) a c) (emAt (L m)) (emTup (L m)) a b c d 6 := tN_is (a := a) (b := b) (c := c) (d := d) 6 h1 h2 (Or.inr hp)
  have hp' : (emTup (L m)).p = 17 := by rw [emTup_p]; exact hp
  unfold emNew emCh
  rw [if_neg (by rw [hp']; decide), if_pos hp']
  unfold emFlow tL
  rw [hM, e5, e6, q']
  have r : get16 (L (tS3 m a b c d)) ((emAt (L m) + 6 : Nat) : Int) = get16 (emFlowL (emMid (L m) a c) (emAt (L m)) b d) ((emAt (L m) + 6 : Nat) : Int) := rfl
  rw [r]
  simp only [hp', true_and, if_pos (show emAt (L m) + 6 + 2 ≤ m.size by omega)]
  split
  · rfl
  · rfl
/-- icmp: the query's ID -/
theorem tNew_1 {m : ByteArray} {a b c d : Int} (h1 : 20 ≤ emEnd (L m)) (h2 : emEnd (L m) + 8 ≤ m.size) (hp : at_ (L m) 9 = 1) :
    S (emNew (L m) a b c d) = tS6 m a c (if emAsk (L m) = true then b else d) := by
  have hl : (L m).length = m.size := L_length m
  have e := tEnd (L m) h1
  have hM : (emMid (L m) a c).length = m.size := by rw [emMid_len (by omega)]; exact hl
  have hp' : (emTup (L m)).p = 1 := by rw [emTup_p]; exact hp
  have e2 : (emEnd (L m) + 2).toNat = emAt (L m) + 2 := by rw [e]; omega
  have e4 : (emEnd (L m) + 4).toNat = emAt (L m) + 4 := by rw [e]; omega
  have g2 : get16 (L (tS2 m a c)) (emEnd (L m) + 2) = be16 (emMid (L m) a c) (emAt (L m) + 2) := by rw [e]; exact get16_nat (l := emMid (L m) a c) (k := emAt (L m) + 2) (by omega)
  have g4 : get16 (L (tS2 m a c)) (emEnd (L m) + 4) = be16 (emMid (L m) a c) (emAt (L m) + 4) := by rw [e]; exact get16_nat (l := emMid (L m) a c) (k := emAt (L m) + 4) (by omega)
  unfold emNew emCh
  rw [if_neg (by rw [hp']; decide), if_neg (by rw [hp']; decide)]
  unfold emMsgN tS6 tM
  rw [g2, g4]
  unfold tS5
  rw [e2, e4]
  rfl
theorem trNew_is {s : ByteArray} {oa ob oc od a b c d : Int} :
    tO2 (rwOut s oa ob oc od) (emData s) (S (emNew (L (emData s)) a b c d)) (msgOf (ipRest s)).n = S (trNew s oa ob oc od a b c d) := by
  unfold tO2 trNew tO1 tSum emSum
  have x : ∀ (z : ByteArray) (k : Nat), L (z.extract 0 k) = (L z).take k := fun z k => by
    rw [L_extract]; simp
  rw [x, x, L_S, L_S]
  rfl
/-- all ways in one -/
theorem et_1_is {x0 x1 x2 x3 x4 x5 x6 x8 xr a0 a1 a3 a4 a5 a6 r m0 m1 m2 ar : Int} {x7 a2 mk qa qi : Bool} {a7 l m3 m out s : ByteArray} {oa ob oc od a b c d : Int} (hi : qi = qIs (emMsg (L m))) (ha : qa = qAsk (emMsg (L m))) {w : Int} (hw : w = if xr ≠ 0 then xr else if x5 ≠ 3 then 15 else if emWhy (L m) ≠ 0 then emWhy (L m) else ar) :
    et_1_v x0 x1 x2 x3 x4 x5 x6 x8 xr a0 a1 a3 a4 a5 a6 r m0 m1 m2 ar x7 a2 mk qa qi a7 l m3 m out s oa ob oc od a b c d = .tuple #[.string (if w = 0 then tO2 out m (S (emNew (L m) a b c d)) m2 else { data := #[] }), .int .i64 w] := by
  have hl : (L m).length = m.size := L_length m
  unfold et_1_v
  have T : ∀ v : Int, v ≠ 0 → w = v → (.tuple #[.string { data := #[] }, .int .i64 v] : Value) = .tuple #[.string (if w = 0 then tO2 out m (S (emNew (L m) a b c d)) m2 else { data := #[] }), .int .i64 w] := fun v hv e => by rw [e, if_neg hv]
  by_cases e1 : xr = 0
  · have q1 : (xr != 0) = false := by simpa using e1
    rw [if_neg (by simpa using e1)] at hw
    rw [q1, cond_false]
    by_cases e2 : x5 = 3
    · have q2 : (x5 != 3) = false := by simpa using e2
      rw [if_neg (by simpa using e2)] at hw
      rw [q2, cond_false]
      have V : ∀ v : Int, v ≠ 0 → emWhy (L m) = v → w = v := fun v hv h => by rw [hw, if_pos (by rw [h]; exact hv), h]
      have Z : emWhy (L m) = 0 → w = ar := fun h => by rw [hw, if_neg (by rw [h]; simp)]
      by_cases f1 : (m.size : Int) < 20
      · rw [decide_eq_true f1, cond_true]
        exact T 15 (by decide) (V 15 (by decide) (by unfold emWhy; rw [if_pos (Or.inl (by rw [hl]; exact f1))]))
      rw [decide_eq_false f1, cond_false]
      by_cases f2 : at_ (L m) 0 / 16 = 4
      rotate_left
      · rw [show (at_ (L m) 0 / 16 != 4) = true by simpa using f2, cond_true]
        exact T 15 (by decide) (V 15 (by decide) (by unfold emWhy; rw [if_pos (Or.inr f2)]))
      rw [show (at_ (L m) 0 / 16 != 4) = false by simpa using f2, cond_false]
      have A1 : ¬ (((L m).length : Int) < 20 ∨ at_ (L m) 0 / 16 ≠ 4) := by rw [hl]; rintro (h | h); exact f1 h; exact h f2
      by_cases f3 : emEnd (L m) < 20
      · rw [decide_eq_true f3, cond_true]
        exact T 15 (by decide) (V 15 (by decide) (by unfold emWhy; rw [if_neg A1, if_pos (Or.inl f3)]))
      rw [decide_eq_false f3, cond_false]
      by_cases f4 : (m.size : Int) - 8 < emEnd (L m)
      · rw [decide_eq_true f4, cond_true]
        exact T 15 (by decide) (V 15 (by decide) (by unfold emWhy; rw [if_neg A1, if_pos (Or.inr (Or.inl (by rw [hl]; exact f4)))]))
      rw [decide_eq_false f4, cond_false]
      have g6 : get16 (L m) 6 = be16 (L m) 6 := get16_nat (k := 6) (by omega)
      rw [g6]
      by_cases f5 : be16 (L m) 6 % 8192 = 0
      rotate_left
      · rw [show (be16 (L m) 6 % 8192 != 0) = true by simpa using f5, cond_true]
        exact T 15 (by decide) (V 15 (by decide) (by unfold emWhy; rw [if_neg A1, if_pos (Or.inr (Or.inr f5))]))
      rw [show (be16 (L m) 6 % 8192 != 0) = false by simpa using f5, cond_false]
      have A2 : ¬ (emEnd (L m) < 20 ∨ ((L m).length : Int) - 8 < emEnd (L m) ∨ be16 (L m) 6 % 8192 ≠ 0) := by rw [hl]; rintro (h | h | h); exact f3 h; exact f4 h; exact h f5
      have h1 : 20 ≤ emEnd (L m) := by omega
      have h2 : emEnd (L m) + 8 ≤ m.size := by omega
      have Y : ∀ X : ByteArray, emWhy (L m) = 0 → X = S (emNew (L m) a b c d) → ar = 0 → (.tuple #[.string (tO2 out m X m2), .int .i64 0] : Value) = .tuple #[.string (if w = 0 then tO2 out m (S (emNew (L m) a b c d)) m2 else { data := #[] }), .int .i64 w] := fun X hz e z => by rw [Z hz, z, if_pos rfl, e]
      have R : emWhy (L m) = 0 → ar ≠ 0 → (.tuple #[.string { data := #[] }, .int .i64 ar] : Value) = .tuple #[.string (if w = 0 then tO2 out m (S (emNew (L m) a b c d)) m2 else { data := #[] }), .int .i64 w] := fun hz z => T ar z (Z hz)
      have e := tEnd (L m) h1
      have sz : (tS3 m a b c d).size = m.size := tS3_size (by omega) h1 h2
      by_cases k6 : at_ (L m) 9 = 6
      · have W0 : emWhy (L m) = 0 := by unfold emWhy; rw [if_neg A1, if_neg A2, if_pos (Or.inl k6)]
        rw [show (at_ (L m) 9 == 6) = true by simpa using k6, cond_true]
        by_cases z : ar = 0
        · have N := tNew_6 (a := a) (b := b) (c := c) (d := d) h1 h2 k6
          rw [show (ar != 0) = false by simpa using z, cond_false, show (at_ (L m) 9 == 17) = false by rw [k6]; rfl, cond_false]
          by_cases u : emEnd (L m) + 16 + 2 ≤ ((tS3 m a b c d).size : Int)
          · rw [decide_eq_true u, cond_true]; exact Y _ W0 (by rw [N, if_pos (by omega)]) z
          · rw [decide_eq_false u, cond_false]; exact Y _ W0 (by rw [N, if_neg (by omega)]) z
        · rw [show (ar != 0) = true by simpa using z, cond_true]; exact R W0 z
      rw [show (at_ (L m) 9 == 6) = false by simpa using k6, cond_false]
      by_cases k17 : at_ (L m) 9 = 17
      · have W0 : emWhy (L m) = 0 := by unfold emWhy; rw [if_neg A1, if_neg A2, if_pos (Or.inr k17)]
        rw [show (at_ (L m) 9 == 17) = true by simpa using k17, cond_true]
        by_cases z : ar = 0
        · have N := tNew_17 (a := a) (b := b) (c := c) (d := d) h1 h2 k17
          rw [show (ar != 0) = false by simpa using z, cond_false]
          by_cases u : get16 (L (tS3 m a b c d)) (emEnd (L m) + 6) = 0
          · rw [show (get16 (L (tS3 m a b c d)) (emEnd (L m) + 6) == 0) = true by simpa using u, cond_true]
            exact Y _ W0 (by rw [N, if_pos u]) z
          rw [show (get16 (L (tS3 m a b c d)) (emEnd (L m) + 6) == 0) = false by simpa using u, cond_false]
          have d2 : decide (emEnd (L m) + 6 + 2 ≤ ((tS3 m a b c d).size : Int)) = true := decide_eq_true (by omega)
          by_cases v : tN m a b c d 6 = 0
          · rw [show (tN m a b c d 6 == 0) = true by simpa using v, cond_true, d2, cond_true]
            exact Y _ W0 (by rw [N, if_neg u, if_pos v]) z
          · rw [show (tN m a b c d 6 == 0) = false by simpa using v, cond_false, d2, cond_true]
            exact Y _ W0 (by rw [N, if_neg u, if_neg v]) z
        · rw [show (ar != 0) = true by simpa using z, cond_true]; exact R W0 z
      rw [show (at_ (L m) 9 == 17) = false by simpa using k17, cond_false]
      have A3 : ¬ (at_ (L m) 9 = 6 ∨ at_ (L m) 9 = 17) := by rintro (h | h); exact k6 h; exact k17 h
      by_cases k1 : at_ (L m) 9 = 1
      · rw [show (at_ (L m) 9 == 1) = true by simpa using k1, cond_true]
        have K : emAsk (L m) = qa := by unfold emAsk; rw [decide_eq_true k1, Bool.true_and, ha]
        have N := tNew_1 (a := a) (b := b) (c := c) (d := d) h1 h2 k1
        rw [K] at N
        cases q : qi
        · rw [cond_false]
          exact T 15 (by decide) (V 15 (by decide) (by unfold emWhy; rw [if_neg A1, if_neg A2, if_neg A3, if_neg (by simpa using k1), if_neg (by rw [← hi, q]; decide)]))
        · have W0 : emWhy (L m) = 0 := by unfold emWhy; rw [if_neg A1, if_neg A2, if_neg A3, if_neg (by simpa using k1), if_pos (by rw [← hi, q])]
          rw [cond_true]
          by_cases z : ar = 0
          · rw [show (ar != 0) = false by simpa using z]
            cases qq : qa
            · exact Y _ W0 (by rw [N, qq]; rfl) z
            · exact Y _ W0 (by rw [N, qq]; rfl) z
          · rw [show (ar != 0) = true by simpa using z]
            cases qq : qa
            · exact R W0 z
            · exact R W0 z
      · rw [show (at_ (L m) 9 == 1) = false by simpa using k1, cond_false]
        exact T 6 (by decide) (V 6 (by decide) (by unfold emWhy; rw [if_neg A1, if_neg A2, if_neg A3, if_pos k1]))
    · rw [if_pos e2] at hw
      rw [show (x5 != 3) = true by simpa using e2, cond_true]
      exact T 15 (by decide) hw
  · rw [if_pos e1] at hw
    rw [show (xr != 0) = true by simpa using e1, cond_true]
    exact T xr e1 hw
end Go.Proofs.YtilfcikhipadpaaGreatDoor
end

section
/- embeds.Translate: an error and what it is about, both changed: the program's, whole. -/
set_option linter.unusedVariables false
set_option linter.unusedSimpArgs false
namespace Go.Proofs.YtilfcikhipadpaaGreatDoor
open Go.RowKit Go.Lib Rx
theorem tr_whyIs {s : ByteArray} {m : Msg} (hm : 8 ≤ (ipRest s).size → m = msgOf (ipRest s)) : trWhy s = if seenWhy s ≠ 0 then seenWhy s else if (seenOf s).k ≠ 3 then 15 else if emWhy (L m.d) ≠ 0 then emWhy (L m.d) else rwWhy s := by
  unfold trWhy emsWhy
  by_cases h : seenWhy s ≠ 0
  · simp only [if_pos h]
  · simp only [if_neg h]
    by_cases k : (seenOf s).k ≠ 3
    · simp only [if_pos k]; rfl
    · simp only [if_neg k]
      rw [hm (msg_is (by omega) (by omega))]
      rfl
theorem e_Translate (oa ob oc od a b c d : Int) (s : ByteArray) (w : World) (K0 : Kinds w) (hoa : 0 ≤ oa ∧ oa ≤ 4294967295) (hob : 0 ≤ ob ∧ ob ≤ 65535) (hoc : 0 ≤ oc ∧ oc ≤ 4294967295) (hod : 0 ≤ od ∧ od ≤ 65535) (ha : 0 ≤ a ∧ a ≤ 4294967295) (hb : 0 ≤ b ∧ b ≤ 65535) (hc : 0 ≤ c ∧ c ≤ 4294967295) (hd : 0 ≤ d ∧ d ≤ 65535) (hs : s.size ≤ 140737488351232) :
    Calls Tryz.prog 66 #[.string s, .agg #[.int .u32 oa, .int .u16 ob, .int .u32 oc, .int .u16 od], .agg #[.int .u32 a, .int .u16 b, .int .u32 c, .int .u16 d]] w (Ret (.tuple #[.string (trOut s oa ob oc od a b c d), .int .i64 (trWhy s)]) w) := by
  obtain ⟨m, hm, mo, c4, _⟩ := msg_any (ipRest s) (rest_sz hs)
  have cq := fun W (b : Below w.heap.size w W) => i_Query (emMsg (L m.d)) W (emMsg_ok m.d) (K0.below b)
  rw [emMsg_at] at cq
  have zo : seenWhy s = 0 → (seenOf s).k = 3 → rwWhy s = 0 → m.d.size + 28 ≤ (rwOut s oa ob oc od).size ∧ (rwOut s oa ob oc od).size ≤ 140737488351232 := fun h1 h2 h3 => by
    obtain ⟨k, _, k1, k2, k3, k4, _⟩ := tr_size0 (a := oa) (b := ob) (c := oc) (d := od) h1 h2 h3 hoa hob hoc hod
    have e : m.d = emData s := by rw [hm (msg_is h1 h2)]; rfl
    rw [e]; omega
  have k := et_1 s oa ob oc od a b c d w _ _ _ _ _ _ _ _ _ _ _ _ _ _ _ _ _ _ _ _ _ _ _ _ _ _ _ _ _ _ mo.2.2.2.2 ha hb hc hd mo.2.2.1 zo (fun W b => tu_Of s W (K0.below b) hs) (fun W _ => ip_Parse s W hs) (fun W _ => c4 W) cq (fun W b => rw_Apply oa ob oc od s W (K0.below b) hoa hob hoc hod hs)
  rw [← emMsg_at, et_1_is rfl rfl (tr_whyIs hm)] at k
  have e : (if trWhy s = 0 then tO2 (rwOut s oa ob oc od) m.d (S (emNew (L m.d) a b c d)) m.n else { data := #[] }) = trOut s oa ob oc od a b c d := by
    unfold trOut
    by_cases h : trWhy s = 0
    · rw [if_pos h, if_pos h]
      have hw := tr_whyIs hm
      rw [h] at hw
      by_cases h1 : seenWhy s = 0
      rotate_left
      · rw [if_pos h1] at hw; exact absurd hw.symm h1
      by_cases h2 : (seenOf s).k = 3
      rotate_left
      · rw [if_neg (by omega), if_pos h2] at hw; exact absurd hw (by decide)
      rw [hm (msg_is h1 h2)]
      exact trNew_is
    · rw [if_neg h, if_neg h]
  rw [e] at k
  exact k
end Go.Proofs.YtilfcikhipadpaaGreatDoor
end

section
/- BindsErrors: its walk. -/
set_option linter.unusedVariables false
set_option linter.unusedSimpArgs false
namespace Go.Proofs.YtilfcikhipadpaaGreatDoor
open Go.RowKit Go.Lib Rx
/-- an error about a packet: what is seen of it, what it is about -/
theorem wrongS (a c : Int) (ab : ByteArray) (ha : 0 ≤ a ∧ a ≤ 4294967295) (hc : 0 ≤ c ∧ c ≤ 4294967295) (hs : ab.size ≤ 140737488351232) :
    ∃ o : ByteArray, o.size ≤ 140737488351232 ∧ (seenWhy o = 0 ∧ seenOf o = ⟨⟨1, a, 0, c, 0⟩, 3, 0, false, 64⟩ ∧ L (emData o) = (L ab).take 548) ∧ ∀ w, Calls Tryz.prog 30 #[.int .u32 a, .int .u32 c, .int .u8 3, .string ab] w (Ret (.string o) w) := by
  obtain ⟨z, hz⟩ : ∃ z, z = (if (548 : Int) < (ab.size : Int) then 548 else (ab.size : Int)) := ⟨_, rfl⟩
  have hz1 : 0 ≤ z ∧ z ≤ 548 ∧ z ≤ ab.size ∧ (z = 548 ∨ z = ab.size) := by rw [hz]; split <;> omega
  have hY : (ab.extract 0 z.toNat).size = z.toNat := by rw [ByteArray.size_extract]; omega
  have hLY : L (ab.extract 0 z.toNat) = (L ab).take 548 := by
    rw [L_to]
    rcases hz1.2.2.2 with h | h
    · rw [h]; rfl
    · rw [h, List.take_of_length_le (by rw [L_length]; omega), List.take_of_length_le (by rw [L_length]; omega)]
  have z4 : ({ data := #[0, 0, 0, 0] } : ByteArray).size = 4 := rfl
  have o1 : (wrMsg (ab.extract 0 z.toNat)).Ok := ⟨⟨(by decide : (0 : Int) ≤ 3), (by decide : (3 : Int) ≤ 255)⟩, ⟨(by decide : (0 : Int) ≤ 1), (by decide : (1 : Int) ≤ 255)⟩, ⟨(by decide : (0 : Int) ≤ 0), (by decide : (0 : Int) ≤ 65535)⟩, by rw [z4]; decide, by dsimp only; omega⟩
  have c1 := fun W => r7_Put_yes (wrMsg (ab.extract 0 z.toNat)) W o1 rfl
  have hz2 : (msgPut (wrMsg (ab.extract 0 z.toNat))).length = z.toNat + 8 := by rw [msgPut_length]; show 4 + 4 + (ab.extract 0 z.toNat).size = _; omega
  have c2 := fun W => r7_Seal (S (msgPut (wrMsg (ab.extract 0 z.toNat)))) W (by rw [S_size]; omega)
  obtain ⟨l1, hl⟩ : ∃ l1, l1 = S (icmpSeal (L (S (msgPut (wrMsg (ab.extract 0 z.toNat)))))) := ⟨_, rfl⟩
  have h1 : l1.size = z.toNat + 8 := by rw [hl, S_size, icmpSeal_len, L_S, hz2]
  rw [← hl] at c2
  have ho : (wrHd a c).Ok := by
    refine ⟨?_, ?_, ?_, ?_, ha, hc, ?_⟩ <;> (dsimp only; decide)
  have c3 := fun W => r4_Put 0 0 64 1 a c false { data := #[] } l1 W ho (by omega)
  have e0 : ({ data := #[] } : ByteArray).size = 0 := rfl
  have he : ipErr (wrHd a c) l1 = 0 := by
    unfold ipErr
    rw [if_neg (by rw [e0]; omega), if_neg (by rw [e0]; omega)]
  rw [he] at c3
  obtain ⟨w0, w1, w2⟩ := wrong_seen a c _ ha hc (by omega) l1 hl he _ rfl
  refine ⟨ipText (wrHd a c) l1, ?_, ⟨w0, w1, by rw [w2, hLY]⟩, fun w => ?_⟩
  · unfold ipText
    rw [if_pos he, S_size]
    unfold Hd.put Hd.bytes
    simp only [Hd.words, List.length_append, putW_length, put32_length, L_length, List.length_cons, List.length_nil]
    omega
  · rw [hz] at c1 c2
    exact run (args := [.int .u32 a, .int .u32 c, .int .u8 3, .string ab]) [sH 6 9 .i64 ab (if (548 : Int) < (ab.size : Int) then 548 else (ab.size : Int)),
      does 8 (args := [.agg #[.int .u8 3, .int .u8 1, .int .u16 0, .string { data := #[0, 0, 0, 0] }, .string (ab.extract 0 (if (548 : Int) < (ab.size : Int) then 548 else (ab.size : Int)).toNat)]]) (fun W _ => c1 W), does 18 (args := [.string (S (msgPut (wrMsg (ab.extract 0 (if (548 : Int) < (ab.size : Int) then 548 else (ab.size : Int)).toNat))))]) (fun W _ => c2 W),
      does 19 (args := [.agg #[.int .u8 0, .int .u16 0, .bool false, .int .u8 64, .int .u8 1, .int .u32 a, .int .u32 c, .string { data := #[] }], .string l1]) (fun W _ => c3 W)]
/-- what is sent, an error about it, what becomes of that -/
theorem er_leg {o : ByteArray} {q si sp di dp k1 f1 l1 : Int} {a1 : Bool} (hx : seenOf o = ⟨⟨q, si, sp, di, dp⟩, k1, f1, a1, l1⟩) (hs : o.size ≤ 140737488351232) (h0 : seenWhy o = 0) (hl : 1 < l1) (hk : k1 ≠ 3) (hq : q = 6 ∨ q = 17 ∨ (q = 1 ∧ (a1 = true → dp = 0))) (ha : q = 1 → a1 = true)
    (r1 : 0 ≤ si ∧ si ≤ 4294967295) (r2 : 0 ≤ sp ∧ sp ≤ 65535) (r3 : 0 ≤ di ∧ di ≤ 4294967295) (r4 : 0 ≤ dp ∧ dp ≤ 65535) (SA SB DA DB src : Int) (s1 : 0 ≤ SA ∧ SA ≤ 4294967295) (s2 : 0 ≤ SB ∧ SB ≤ 65535) (s3 : 0 ≤ DA ∧ DA ≤ 4294967295) (s4 : 0 ≤ DB ∧ DB ≤ 65535) (hsr : 0 ≤ src ∧ src ≤ 4294967295) (h1 : q = 1 → DB = 0) :
    ∃ (sn wr : ByteArray) (td : Int → ByteArray) (k2 f2 l2 : Int) (a2 : Bool),
      (∀ W, Kinds W → Calls Tryz.prog 65 #[.string o, chV SA SB DA DB] W (Ret (.tuple #[.string sn, .int .i64 0]) W)) ∧
      (∀ W, Kinds W → Calls Tryz.prog 27 #[.string sn] W (Ret (seV q SA SB DA DB k2 f2 a2 l2) W)) ∧
      (∀ W, Calls Tryz.prog 30 #[.int .u32 src, .int .u32 SA, .int .u8 3, .string sn] W (Ret (.string wr) W)) ∧
      (∀ W, Kinds W → Calls Tryz.prog 11 #[.string wr] W (Ret (.tuple #[.agg #[.int .u8 1, .int .u32 src, .int .u16 0, .int .u32 SA, .int .u16 0, .int .i64 3, .int .u8 0, .bool false, .int .u8 64, .int .u8 q, .int .u32 DA, .int .u16 DB, .int .u32 SA, .int .u16 SB], .int .i64 0]) W)) ∧
      (∀ {z : Int}, (0 ≤ z ∧ z ≤ 4294967295) → ∀ W, Kinds W → Calls Tryz.prog 66 #[.string wr, chV z 0 si 0, chV si sp di dp] W (Ret (.tuple #[.string (td z), .int .i64 0]) W)) ∧
      (∀ {z : Int}, (0 ≤ z ∧ z ≤ 4294967295) → ∀ W, Kinds W → Calls Tryz.prog 27 #[.string (td z)] W (Ret (seV 1 z 0 si 0 3 0 false 63) W)) ∧
      (∀ {z : Int}, (0 ≤ z ∧ z ≤ 4294967295) → ∀ W, Kinds W → Calls Tryz.prog 31 #[.string (td z)] W (Ret (.tuple #[.agg #[.int .u8 q, .int .u32 si, .int .u16 sp, .int .u32 di, .int .u16 dp], .int .i64 0]) W)) := by
  obtain ⟨w0, w1, w2, _, wz, _⟩ := rw_seen (a := SA) (b := SB) (c := DA) (d := DB) h0 (by rw [hx]; exact hl) s1 s2 s3 s4 _ rfl
  have hdp : q = 1 → dp = 0 := fun e => by rcases hq with h | h | h; · omega
                                           · omega
                                           · exact h.2 (ha e)
  have e2 : seenTo (seenOf o) SA SB DA DB = ⟨⟨q, SA, SB, DA, DB⟩, k1, f1, a1, l1 - 1⟩ := by
    rw [hx]
    unfold seenTo
    simp only
    rw [if_neg hk]
    by_cases e : q = 1
    · rw [if_neg (by omega), ha e, if_pos rfl, hdp e, h1 e]
    · rw [if_pos e]
  rw [e2] at w2
  obtain ⟨wr, zr, ⟨m0, m1, m2⟩, mc⟩ := wrongS src SA (rwOut o SA SB DA DB) hsr s1 (by omega)
  obtain ⟨b0, b1, b2, b3⟩ := about_ok w1 (by rw [w2]; exact hk) _ m2
  rw [w2] at b1 b2 b3
  simp only at b1 b2 b3
  have ew : emsWhy wr = 0 := by unfold emsWhy; rw [if_neg (by omega), m1, if_neg (by simp)]; exact b0
  have it : inTup wr = ⟨q, SA, SB, DA, DB⟩ := by unfold inTup; rw [if_pos ew, b1]
  have want : emWant (L (emData wr)) si sp di dp = ⟨q, si, sp, di, dp⟩ := by
    unfold emWant
    rw [b3]
    by_cases e : q = 1
    · rw [if_pos e, if_pos (b2 (b3.trans e) (ha e)), hdp e]
    · rw [if_neg e]
  have IN := fun (z : Int) (hz : 0 ≤ z ∧ z ≤ 4294967295) => em_inner (oa := z) (ob := 0) (oc := si) (od := 0) (a := si) (b := sp) (c := di) (d := dp) ew (by rw [m1]; exact (by decide : (1 : Int) < 64)) hz r1 r1 r2 r3 r4 _ rfl
  have z16 : (0 : Int) ≤ 0 ∧ (0 : Int) ≤ 65535 := by decide
  refine ⟨rwOut o SA SB DA DB, wr, fun z => trOut wr z 0 si 0 si sp di dp, k1, f1, l1 - 1, a1, fun W K => ?_, fun W K => ?_, mc, fun W K => ?_, fun {z} hz W K => ?_, fun {z} hz W K => ?_, fun {z} hz W K => ?_⟩
  · have c := rw_Apply SA SB DA DB o W K s1 s2 s3 s4 hs
    rw [w0] at c
    exact c
  · have c := tu_Of (rwOut o SA SB DA DB) W K (by omega)
    rw [w2, w1] at c
    exact c
  · have c := b_See wr W K zr
    unfold seeV at c
    rw [m0, if_neg (by decide), m1, it, ew] at c
    simp only at c
    rw [if_neg (by decide : ¬ (64 : Int) < 2), if_neg (by decide : ¬ (3 : Int) ≠ 3), if_neg (by decide : ¬ (0 : Int) ≠ 0), if_neg (by simp)] at c
    exact c
  · have c := e_Translate z 0 si 0 si sp di dp wr W K hz z16 r1 z16 r1 r2 r3 r4 zr
    rw [(IN z hz).1] at c
    exact c
  · obtain ⟨t0, t1, t2, t3, _, _, _, _, t4, t5, _⟩ := IN z hz
    have c := tu_Of (trOut wr z 0 si 0 si sp di dp) W K (by omega)
    rw [t3, t2, m1] at c
    exact c
  · obtain ⟨t0, t1, t2, t3, _, _, _, _, t4, t5, _⟩ := IN z hz
    have c := e_Inner W (trOut wr z 0 si 0 si sp di dp) K (by omega)
    have e : inTup (trOut wr z 0 si 0 si sp di dp) = ⟨q, si, sp, di, dp⟩ := by unfold inTup; rw [if_pos t1, t5, want]
    rw [e, t1] at c
    exact c
set_option maxHeartbeats 2000000 in
theorem BindsErrors_walk (X : Option Addr) (n c : Nat) (l : List Rulg) (k p f t b p0 p1 fl : Int) (s : ByteArray) (b0 b1 b2 b3 : Int) (w : World) (K0 : Lasts w ∧ Kinds w ∧ Wds w) (hl : n = l.length ∧ n ≤ c ∧ rulgK.Has w X l ∧ rulgK.Read w (.slice X n c) l ∧ (∀ d ∈ l, d.Ok) ∧ n ≤ 9223372036854775807) (hX : RealA X)
    (hk : 0 ≤ k ∧ k ≤ 255) (hp : 0 ≤ p ∧ p ≤ 255) (hf : 0 ≤ f ∧ f ≤ 255) (ht : 0 ≤ t ∧ t ≤ 255) (hb : 0 ≤ b ∧ b ≤ 255) (h0 : 0 ≤ p0 ∧ p0 ≤ 255) (h1 : 0 ≤ p1 ∧ p1 ≤ 255) (hfl : 0 ≤ fl ∧ fl ≤ 255) (hs : s.size ≤ 140737488351232) (hb0 : 0 ≤ b0 ∧ b0 ≤ 65535) (hb1 : 0 ≤ b1 ∧ b1 ≤ 65535) (hb2 : 0 ≤ b2 ∧ b2 ≤ 65535) (hb3 : 0 ≤ b3 ∧ b3 ≤ 65535) :
    Calls Tryz.prog 8 #[.slice X n c, wireV k p f t b p0 p1 fl s, .agg #[.int .u16 b0, .int .u16 b1, .int .u16 b2, .int .u16 b3]] w (Ret (.bool true) w) := by
  have hL : ∀ W, (Amb.of w).S W → Lasts W := fun W h => K0.1.below h
  have hK : ∀ W, Below w.heap.size w W → Kinds W := fun W h => K0.2.1.below h
  have hW : ∀ W, Below w.heap.size w W → Wds W := fun W h => K0.2.2.below h
  have bd : ∀ W, Below w.heap.size w W → Calls Tryz.prog 9 #[] W (Ret (.bool true) W) := fun W h => rx_bound W (K0.1.below h)
  by_cases h22 : s.size ≤ 2200
  rotate_left
  · rcases hX with rfl | ⟨g, of, rfl⟩ <;> exact run (args := [.slice _ n c, wireV k p f t b p0 p1 fl s, .agg #[.int .u16 b0, .int .u16 b1, .int .u16 b2, .int .u16 b3]]) [yes 7 (b := decide ((s.size : Int) > 2200)) (by simp; omega), does 8 (args := []) bd]
  have g7 : decide ((s.size : Int) > 2200) = false := by simp; omega
  obtain ⟨o, z, ct⟩ := w_Text k p f t b p0 p1 fl s w ⟨hp.1, hf.1, ht.1, h0.1, h1.1, hfl.1⟩ hb.1 hfl.2 hs
  have T := tabs_at (c := c) hX hl.1 hl.2.2.1 hl.2.2.2.2.1
  let te : Ev Tryz.prog (Amb.of w) := does 30 (args := [wireV k p f t b p0 p1 fl s]) ct
  have cs : ∀ W, Below w.heap.size w W → _ := fun W h => b_See o W (hK W h) z
  rcases see_cases o with ⟨e, he, hv⟩ | ⟨sw, sl, y, hv, hy⟩
  · rw [hv] at cs
    have g38 : (e != 0) = true := by simpa using he
    rcases T with h | ⟨rs, hR, h⟩
    · have k4 := tabs_nil h hX 2
      rcases hX with rfl | ⟨g, of, rfl⟩ <;> exact run (args := [.slice _ n c, wireV k p f t b p0 p1 fl s, .agg #[.int .u16 b0, .int .u16 b1, .int .u16 b2, .int .u16 b3]]) [no 7 g7, calls 9 2 2 k4, te, does 33 (args := [.string o]) cs, yes 42 g38, does 72 (args := []) bd]
    · have k4 := tabs_ne h hX 2
      rcases hX with rfl | ⟨g, of, rfl⟩ <;> exact run (args := [.slice _ n c, wireV k p f t b p0 p1 fl s, .agg #[.int .u16 b0, .int .u16 b1, .int .u16 b2, .int .u16 b3]]) [no 7 g7, calls 9 2 4 k4, te, does 33 (args := [.string o]) cs, yes 42 g38, does 72 (args := []) bd]
  rw [hv] at cs
  obtain ⟨hq, r1, r2, r3, r4⟩ := seen_is sw
  generalize hx : seenOf o = x at *
  obtain ⟨⟨q, si, sp, di, dp⟩, k1, f1, a1, l1⟩ := x
  simp only at sl hy hq r1 r2 r3 r4
  rcases T with h | ⟨rs, hR, h⟩
  · have k4 := tabs_nil h hX 2
    obtain ⟨r, hr, hr3⟩ := of_none (o := oC) (ip := ipC) (b := 8) q si sp di dp k1 f1 a1
    have k42 := b_Of0 (A := Amb.of w) (by decide : (0 : Int) ≤ ipC ∧ ipC ≤ 4294967295) q si sp di dp k1 f1 l1 a1 r1 r3 hL 2 9 rfl hr
    rcases hr3 with rfl | rfl | rfl <;> rcases hX with rfl | ⟨g, of, rfl⟩ <;> exact run (args := [.slice _ n c, wireV k p f t b p0 p1 fl s, .agg #[.int .u16 b0, .int .u16 b1, .int .u16 b2, .int .u16 b3]]) [no 7 g7, calls 9 2 2 k4, te, does 33 (args := [.string o]) cs, calls 46 9 0 k42, does 84 (args := []) bd]
  have k4 := tabs_ne h hX 2
  have k42 := b_OfN (A := Amb.of w) (rs := rs) (o := oC) (b := 8) (by have := hR.2.1; omega) (fun r hr => (hR.2.2 r hr).2) (by decide : (0 : Int) ≤ ipC ∧ ipC ≤ 4294967295) q si sp di dp k1 f1 l1 a1 r1 r3 hL 2 4 11 rfl rfl
  rcases of_fail (o := oC) (ip := ipC) (b := 8) rs q si sp di dp k1 f1 a1 with hz | hz
  · rcases hz with hz | hz | hz <;> rw [hz] at k42 <;> rcases hX with rfl | ⟨g, of, rfl⟩ <;> exact run (args := [.slice _ n c, wireV k p f t b p0 p1 fl s, .agg #[.int .u16 b0, .int .u16 b1, .int .u16 b2, .int .u16 b3]]) [no 7 g7, calls 9 2 4 k4, te, does 33 (args := [.string o]) cs, calls 46 11 0 k42, does 84 (args := []) bd]
  obtain ⟨hk3, hask, hfirst, shape⟩ := of_shape hR.2.2 q si sp di dp k1 f1 a1 hz
  have hy := hy hk3
  subst hy
  have hp255 : 0 ≤ q ∧ q ≤ 255 := by rcases hq with h | h | h <;> omega
  have hP : isProto q = true := by unfold isProto; rcases hq with h | h | h <;> simp [h]
  have cF := fun W (_ : Below w.heap.size w W) => tk_Flow W q
  have cT := fun W (h : Below w.heap.size w W) => tk_Timeout W (flowV q) 1 (K0.1.below h)
  have cM := fun W (h : Below w.heap.size w W) => tk_May W (flowV q) 1 (K0.1.below h)
  rw [decide_eq_true (first_time hfirst)] at cM
  have tm := tm_240 q 1
  have may : ∀ a b c d : Int, (q = 1 → b = 0 ∨ d = 0) → ∀ W, Below w.heap.size w W → Calls Tryz.prog 176 #[.agg #[.int .u8 q, .int .u32 a, .int .u16 b, .int .u32 c, .int .u16 d]] W (Ret (.bool true) W) := fun a b c d hq W h => by
    have e : tupMay q b d = true := by
      unfold tupMay
      rw [hP, Bool.true_and]
      by_cases h1 : q = 1
      · rcases hq h1 with h | h <;> simp [h]
      · simp [h1]
    have k := tu_May W q a b c d (hW W h) hp255
    rw [e] at k
    exact k
  have hd0 : q = 1 → dp = 0 := fun e => by rcases hq with h | h | h; · omega
                                           · omega
                                           · exact h.2 (hask e)
  have m1 := may si sp di dp (fun e => .inr (hd0 e))
  have hsr : 0 ≤ srcV b2 b3 ∧ srcV b2 b3 ≤ 4294967295 := u32b _
  have kI := inner_u (A := Amb.of w) (o := oC) (ip := ipC) (b := 8) (rs := rs) (M := taM oC ipC 8 rs) (.inr rfl) (by decide) (srcV b2 b3) hsr 2
  have Q := fun SA SB DA DB s1 s2 s3 s4 hh => er_leg hx z sw sl hk3 hq hask r1 r2 r3 r4 SA SB DA DB (srcV b2 b3) s1 s2 s3 s4 hsr hh
  rcases shape with ⟨e, fp, hr, he, hfp, hq1, hne⟩ | ⟨e, fp, tp, hr, he, hfp, hne⟩ | ⟨a, ap, e, fp, hr, ha, hap, he, hfp, hq1, hne⟩ | ⟨a, ap, e, fp, tp, hr, ha, hap, he, hfp, hq1, hne⟩ | ⟨a, ap, hr, ha, hap, hq1, hne⟩
  · obtain ⟨sn, wr, td, k2, f2, l2, a2, c1, c2, c3, c5, c6, c7, c8⟩ := Q e fp di dp he hfp r3 r4 (fun e => absurd e hq1)
    rw [hr] at k42
    exact er_A q si sp di dp e fp (flowV q) _ k1 f1 l1 k2 f2 l2 k p f t b p0 p1 fl b0 b1 b2 b3 a1 a2 _ n c hX s o sn wr td w g7 tm hk3 r3 hsr (by omega) k4 k42 kI ct cs cF cT cM m1 (may _ _ _ _ (fun e => absurd e hq1)) (fun W h => c1 W (hK W h)) (fun W h => c2 W (hK W h)) (fun W _ => c3 W) (fun W h => c5 W (hK W h)) bd (fun hz W h => c6 hz W (hK W h)) (fun hz W h => c7 hz W (hK W h)) (fun hz W h => c8 hz W (hK W h))
  · obtain ⟨mm, pt, hpt, e0, e1⟩ := port_in hfp hb0.1
    obtain ⟨sn, wr, td, k2, f2, l2, a2, c1, c2, c3, c5, c6, c7, c8⟩ := Q e pt di dp he (by omega) r3 r4 (fun e => hd0 e)
    rw [hr] at k42
    exact er_B q si sp di dp e pt fp tp (flowV q) _ k1 f1 l1 k2 f2 l2 k p f t b p0 p1 fl b0 b1 b2 b3 a1 a2 _ mm ⟨hfp.1, hfp.2.1⟩ hpt e0 e1 n c hX s o sn wr td w g7 tm hk3 r3 hsr (by omega) k4 k42 kI ct cs cF cT cM m1 (may _ _ _ _ (fun e => .inl (hd0 e))) (fun W h => c1 W (hK W h)) (fun W h => c2 W (hK W h)) (fun W _ => c3 W) (fun W h => c5 W (hK W h)) bd (fun hz W h => c6 hz W (hK W h)) (fun hz W h => c7 hz W (hK W h)) (fun hz W h => c8 hz W (hK W h))
  · obtain ⟨sn, wr, td, k2, f2, l2, a2, c1, c2, c3, c5, c6, c7, c8⟩ := Q e fp a ap he hfp ha hap (fun e => absurd e hq1)
    rw [hr] at k42
    exact er_CA q si sp di dp e fp a ap (flowV q) _ k1 f1 l1 k2 f2 l2 k p f t b p0 p1 fl b0 b1 b2 b3 a1 a2 _ n c hX s o sn wr td w g7 tm hk3 r3 hsr (by omega) k4 k42 kI ct cs cF cT cM m1 (may _ _ _ _ (fun e => absurd e hq1)) (fun W h => c1 W (hK W h)) (fun W h => c2 W (hK W h)) (fun W _ => c3 W) (fun W h => c5 W (hK W h)) bd (fun hz W h => c6 hz W (hK W h)) (fun hz W h => c7 hz W (hK W h)) (fun hz W h => c8 hz W (hK W h))
  · obtain ⟨mm, pt, hpt, e0, e1⟩ := port_in hfp hb0.1
    obtain ⟨sn, wr, td, k2, f2, l2, a2, c1, c2, c3, c5, c6, c7, c8⟩ := Q e pt a ap he (by omega) ha hap (fun e => absurd e hq1)
    rw [hr] at k42
    exact er_CB q si sp di dp e pt a ap fp tp (flowV q) _ k1 f1 l1 k2 f2 l2 k p f t b p0 p1 fl b0 b1 b2 b3 a1 a2 _ mm ⟨hfp.1, hfp.2.1⟩ hpt e0 e1 n c hX s o sn wr td w g7 tm hk3 r3 hsr (by omega) k4 k42 kI ct cs cF cT cM m1 (may _ _ _ _ (fun e => absurd e hq1)) (fun W h => c1 W (hK W h)) (fun W h => c2 W (hK W h)) (fun W _ => c3 W) (fun W h => c5 W (hK W h)) bd (fun hz W h => c6 hz W (hK W h)) (fun hz W h => c7 hz W (hK W h)) (fun hz W h => c8 hz W (hK W h))
  · obtain ⟨sn, wr, td, k2, f2, l2, a2, c1, c2, c3, c5, c6, c7, c8⟩ := Q si sp a ap r1 r2 ha hap (fun e => absurd e hq1)
    rw [hr] at k42
    exact er_D q si sp di dp a ap (flowV q) _ k1 f1 l1 k2 f2 l2 k p f t b p0 p1 fl b0 b1 b2 b3 a1 a2 _ n c hX s o sn wr td w g7 tm hk3 r3 hsr (by omega) k4 k42 kI ct cs cF cT cM m1 (may _ _ _ _ (fun e => absurd e hq1)) (fun W h => c1 W (hK W h)) (fun W h => c2 W (hK W h)) (fun W _ => c3 W) (fun W h => c5 W (hK W h)) bd (fun hz W h => c6 hz W (hK W h)) (fun hz W h => c7 hz W (hK W h)) (fun hz W h => c8 hz W (hK W h))
end Go.Proofs.YtilfcikhipadpaaGreatDoor
end
