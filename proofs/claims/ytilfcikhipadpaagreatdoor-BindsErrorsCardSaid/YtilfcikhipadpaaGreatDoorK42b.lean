/- Several texts of this claim, one behind the other. -/
import Derived.Test.YtilfcikhipadpaaGreatDoorK39c
import Derived.KernelRfl

section
/- All ways: printed (gen/mk.py, gen/tr.spec.py). -/
set_option linter.unusedVariables false
set_option linter.unusedSimpArgs false
namespace Go.Proofs.YtilfcikhipadpaaGreatDoor
open Go.RowKit Go.Lib Rx
set_option maxHeartbeats 8000000 in
theorem et_ma (s : ByteArray) (oa ob oc od a b c d : Int) (w : World) (x0 x1 x2 x3 x4 x5 x6 x8 xr a0 a1 a3 a4 a5 a6 r m0 m1 m2 ar : Int) (x7 a2 mk qa qi : Bool) (a7 l m3 m4 out : ByteArray) (hd : m4.size ≤ 140737488351232) (ha : 0 ≤ a ∧ a ≤ 4294967295) (hb : 0 ≤ b ∧ b ≤ 65535) (hc : 0 ≤ c ∧ c ≤ 4294967295) (hd2 : 0 ≤ d ∧ d ≤ 65535) (hm2 : 0 ≤ m2 ∧ m2 ≤ 65535) (ho : xr = 0 → x5 = 3 → ar = 0 → m4.size + 28 ≤ out.size ∧ out.size ≤ 140737488351232) (c1 : ∀ W, Below w.heap.size w W → Calls Tryz.prog 27 #[.string s] W (Ret (.tuple #[.agg #[.int .u8 x0, .int .u32 x1, .int .u16 x2, .int .u32 x3, .int .u16 x4, .int .i64 x5, .int .u8 x6, .bool x7, .int .u8 x8], .int .i64 xr]) W)) (c2 : ∀ W, Below w.heap.size w W → Calls Tryz.prog 74 #[.string s] W (Ret (.tuple #[.agg #[.int .u8 a0, .int .u16 a1, .bool a2, .int .u8 a3, .int .u8 a4, .int .u32 a5, .int .u32 a6, .string a7], .string l, .int .i64 r]) W)) (c3 : ∀ W, Below w.heap.size w W → Calls Tryz.prog 136 #[.string l] W (Ret (.tuple #[.agg #[.int .u8 m0, .int .u8 m1, .int .u16 m2, .string m3, .string m4], .bool mk]) W)) (c4 : ∀ W, Below w.heap.size w W → Calls Tryz.prog 182 #[.agg #[.int .u8 (at_ (L m4) (emEnd (L m4)).toNat), .int .u8 (at_ (L m4) (emEnd (L m4) + 1).toNat), .int .u16 0, .string { data := #[] }, .string { data := #[] }]] W (Ret (.tuple #[.bool qa, .bool qi]) W)) (c6 : ∀ W, Below w.heap.size w W → Calls Tryz.prog 65 #[.string s, .agg #[.int .u32 oa, .int .u16 ob, .int .u32 oc, .int .u16 od]] W (Ret (.tuple #[.string out, .int .i64 ar]) W)) (hp : at_ (L m4) 9 = 1 ∧ qa = true) : Calls Tryz.prog 66 #[.string s, .agg #[.int .u32 oa, .int .u16 ob, .int .u32 oc, .int .u16 od], .agg #[.int .u32 a, .int .u16 b, .int .u32 c, .int .u16 d]] w (Ret (et_1_v x0 x1 x2 x3 x4 x5 x6 x8 xr a0 a1 a3 a4 a5 a6 r m0 m1 m2 ar x7 a2 mk qa qi a7 l m3 m4 out s oa ob oc od a b c d) w) := by
  unfold et_1_v
  have hm : ∀ {a : ByteArray}, a.size ≤ 140737488351232 → a.size ≤ maxLen := fun h => by unfold maxLen; omega
  have b0 := at_bd (L m4) 0
  have b6 := get16_bd (L m4) 6
  have hE : 0 ≤ emEnd (L m4) ∧ emEnd (L m4) ≤ 60 := by unfold emEnd; omega
  have e1 := shr4 b0
  have e2 := and15 b0
  have e3 : IntKind.i64.wrap (at_ (L m4) 0 % 16) = at_ (L m4) 0 % 16 := wrap64_id (by as_aux_lemma => omega)
  have e4 : IntKind.i64.wrap (at_ (L m4) 0 % 16 * 4) = emEnd (L m4) := wrap64_id (by as_aux_lemma => omega)
  have e5 : IntKind.i64.wrap ((m4.size : Int) - 8) = (m4.size : Int) - 8 := wrap64_id (by as_aux_lemma => omega)
  have e6 := and8191 b6
  have e7 : IntKind.i64.wrap (emEnd (L m4) + 2) = emEnd (L m4) + 2 := wrap64_id (by as_aux_lemma => omega)
  have e8 : IntKind.i64.wrap (emEnd (L m4) + 1) = emEnd (L m4) + 1 := wrap64_id (by as_aux_lemma => omega)
  have e9 : IntKind.i64.wrap (emEnd (L m4) + 4) = emEnd (L m4) + 4 := wrap64_id (by as_aux_lemma => omega)
  have q16 : IntKind.i64.wrap (emEnd (L m4) + 16) = emEnd (L m4) + 16 := wrap64_id (by as_aux_lemma => omega)
  have q6 : IntKind.i64.wrap (emEnd (L m4) + 6) = emEnd (L m4) + 6 := wrap64_id (by as_aux_lemma => omega)
  have r16 : IntKind.i64.wrap (emEnd (L m4) + 16 + 2) = emEnd (L m4) + 16 + 2 := wrap64_id (by as_aux_lemma => omega)
  have r6 : IntKind.i64.wrap (emEnd (L m4) + 6 + 2) = emEnd (L m4) + 6 + 2 := wrap64_id (by as_aux_lemma => omega)
  let p1 : List (Ev Tryz.prog (Amb.of w)) := [does 9 (args := [.string s]) c1]
  cases h1 : (xr != 0)
  · have h1q := by simpa using h1
    let p2 : List (Ev Tryz.prog (Amb.of w)) := p1 ++ [no 19 h1]
    cases h2 : (x5 != 3)
    · have h2q := by simpa using h2
      let p3 : List (Ev Tryz.prog (Amb.of w)) := p2 ++ [no 24 h2, does 26 (args := [.string s]) c2, does 36 (args := [.string l]) c3]
      cases h3 : (decide ((m4.size : Int) < 20))
      · have h3q := of_decide_eq_false h3
        let p4 : List (Ev Tryz.prog (Amb.of w)) := p3 ++ [isF 55 h3, sx 57 9 .i64 m4 0, isI 58 .u8 e1]
        cases h4 : (at_ (L m4) 0 / 16 != 4)
        · have h4q := by simpa using h4
          let p5 : List (Ev Tryz.prog (Amb.of w)) := p4 ++ [no 61 h4, sx 64 9 .i64 m4 0, isI 65 .u8 e2, isI 66 .i64 e3, isI 67 .i64 e4]
          cases h5 : (decide (emEnd (L m4) < 20))
          · have h5q := of_decide_eq_false h5
            let p6 : List (Ev Tryz.prog (Amb.of w)) := p5 ++ [isF 76 h5, isI 79 .i64 e5]
            cases h6 : (decide ((m4.size : Int) - 8 < emEnd (L m4)))
            · have h6q := of_decide_eq_false h6
              have g1 : 20 ≤ m4.size := by omega
              have g2 : 20 ≤ emEnd (L m4) := by omega
              have g3 : emEnd (L m4) + 8 ≤ m4.size := by omega
              have ze := tEv_bd (m := m4)
              have zw : (tWas m4).size = 12 := rfl
              have zn : (tNow a b c d).size = 12 := rfl
              have zi : (S (ipsOf a c)).size = 8 := rfl
              have z1 := tS1_size (m := m4) (a := a) (c := c) g1
              have z2 := tS2_size (m := m4) (a := a) (c := c) g1
              have z3 := tS3_size (m := m4) (a := a) (b := b) (c := c) (d := d) g1 g2 g3
              have z5 := tL_size (m := m4) (a := a) (b := b) (c := c) (d := d) 6 (tN m4 a b c d 6) g1 g2 g3 (by decide) (by as_aux_lemma => omega)
              have z6 := tL_size (m := m4) (a := a) (b := b) (c := c) (d := d) 6 65535 g1 g2 g3 (by decide) (by as_aux_lemma => omega)
              have z7 := tS6_size (m := m4) (a := a) (c := c) b g1 g2 g3
              have z8 := tS6_size (m := m4) (a := a) (c := c) d g1 g2 g3
              have yb := tS5_size (m := m4) (a := a) (c := c) b g1 g2 g3
              have yd := tS5_size (m := m4) (a := a) (c := c) d g1 g2 g3
              let p7 : List (Ev Tryz.prog (Amb.of w)) := p6 ++ [isF 86 h6, does 96 (args := [.string m4, .int .i64 6]) fun W _ => Get16 m4 6 W (hm (by as_aux_lemma => omega)) (by as_aux_lemma => omega), isI 105 .u16 e6]
              cases h7 : (get16 (L m4) 6 % 8192 != 0)
              · have h7q := by simpa using h7
                let p8 : List (Ev Tryz.prog (Amb.of w)) := p7 ++ [no 108 h7, sx 111 9 .i64 m4 9, does 121 (args := [.string m4, .int .i64 12]) fun W _ => Get32 m4 12 W (hm (by as_aux_lemma => omega)) (by as_aux_lemma => omega), does 140 (args := [.string m4, .int .i64 16]) fun W _ => Get32 m4 16 W (hm (by as_aux_lemma => omega)) (by as_aux_lemma => omega)]
                cases h8 : (at_ (L m4) 9 == 6)
                · have h8q := by simpa using h8
                  let p9 : List (Ev Tryz.prog (Amb.of w)) := p8 ++ [no 161 h8]
                  cases h9 : (at_ (L m4) 9 == 17)
                  · have h9q := by simpa using h9
                    let p10 : List (Ev Tryz.prog (Amb.of w)) := p9 ++ [no 164 h9]
                    cases h10 : (at_ (L m4) 9 == 1)
                    · have h10q := by simpa using h10
                      exfalso; first | omega | simp_all
                    · have h10q := by simpa using h10
                      let p11 : List (Ev Tryz.prog (Amb.of w)) := p10 ++ [yes 167 h10, sx 180 9 .i64 m4 (emEnd (L m4)), isI 190 .i64 e8, sx 191 9 .i64 m4 (emEnd (L m4) + 1), does 193 (args := [.agg #[.int .u8 (at_ (L m4) (emEnd (L m4)).toNat), .int .u8 (at_ (L m4) (emEnd (L m4) + 1).toNat), .int .u16 0, .string { data := #[] }, .string { data := #[] }]]) c4, isI 206 .i64 e9, does 213 (args := [.string m4, .int .i64 (emEnd (L m4) + 4)]) fun W _ => Get16 m4 (emEnd (L m4) + 4) W (hm (by as_aux_lemma => omega)) (by as_aux_lemma => omega)]
                      cases h11 : (qi)
                      · exact run (args := [.string s, .agg #[.int .u32 oa, .int .u16 ob, .int .u32 oc, .int .u16 od], .agg #[.int .u32 a, .int .u16 b, .int .u32 c, .int .u16 d]]) (p11 ++ [nyes 226 h11])
                      · let p12 : List (Ev Tryz.prog (Amb.of w)) := p11 ++ [nno 226 h11]
                        cases h12 : (qa)
                        · exfalso; first | omega | simp_all
                        · let p13 : List (Ev Tryz.prog (Amb.of w)) := p12 ++ [yes 229 h12, does 275 (args := [.string s, .agg #[.int .u32 oa, .int .u16 ob, .int .u32 oc, .int .u16 od]]) c6]
                          cases h13 : (ar != 0)
                          · have h13q := by simpa using h13
                            have ho2 := ho h1q h2q (by simpa using h13)
                            have oz3 := tO1_size (m := m4) (out := out) (X := tS3 m4 a b c d) z3 (by as_aux_lemma => omega)
                            have oz5 := tO1_size (m := m4) (out := out) (X := tL m4 a b c d 6 (tN m4 a b c d 6)) z5 (by as_aux_lemma => omega)
                            have oz6 := tO1_size (m := m4) (out := out) (X := tL m4 a b c d 6 65535) z6 (by as_aux_lemma => omega)
                            have oz7 := tO1_size (m := m4) (out := out) (X := tS6 m4 a c b) z7 (by as_aux_lemma => omega)
                            have oz8 := tO1_size (m := m4) (out := out) (X := tS6 m4 a c d) z8 (by as_aux_lemma => omega)
                            exact run (args := [.string s, .agg #[.int .u32 oa, .int .u16 ob, .int .u32 oc, .int .u16 od], .agg #[.int .u32 a, .int .u16 b, .int .u32 c, .int .u16 d]]) (p13 ++ [no 283 h13, p32E 294 a, p32E 298 c, isS 299 (S_append (put32 a) (put32 c)), worE 307 10 [b, d] (b2 hb hd2), does 325 (args := [.string m4, .int .i64 10]) fun W _ => Get16 m4 10 W (hm (by as_aux_lemma => omega)) (by as_aux_lemma => omega), sLH 339 9 .i64 .i64 m4 12 20, updQ 341 (get16 (L m4) 10) (m4.extract 12 20) (S (ipsOf a c)) (Eq.refl (tN0 m4 a c)), witE 354 m4 12 (S (ipsOf a c)), isS 356 (tS1_is (m := m4) (a := a) (c := c) (by as_aux_lemma => omega)), worE 367 11 [tN0 m4 a c] (b1 tN0_bd), witE 375 (tS1 m4 a c) 10 (S (putW [tN0 m4 a c])), isS 377 (tS2_is (m := m4) (a := a) (c := c) (by as_aux_lemma => omega)), no 390 h8, no 393 h9, isI 417 .i64 e7, does 424 (args := [.string (tS2 m4 a c), .int .i64 (emEnd (L m4) + 2)]) fun W _ => Get16 (tS2 m4 a c) (emEnd (L m4) + 2) W (hm (by as_aux_lemma => omega)) (by as_aux_lemma => omega), isI 440 .i64 e9, does 447 (args := [.string (tS2 m4 a c), .int .i64 (emEnd (L m4) + 4)]) fun W _ => Get16 (tS2 m4 a c) (emEnd (L m4) + 4) W (hm (by as_aux_lemma => omega)) (by as_aux_lemma => omega), up1Q 457 (get16 (L (tS2 m4 a c)) (emEnd (L m4) + 2)) (get16 (L (tS2 m4 a c)) (emEnd (L m4) + 4)) b (Eq.refl (tM m4 a c b)), isI 466 .i64 e9, worE 469 13 [b] (b1 hb), witE 477 (tS2 m4 a c) (emEnd (L m4) + 4) (S (putW [b])), isS 479 (tLay_at (s := tS2 m4 a c) (i := emEnd (L m4) + 4) (n := b) (by as_aux_lemma => omega) (by as_aux_lemma => omega)), isI 492 .i64 e7, worE 495 14 [tM m4 a c b] (b1 (tM_bd _ hb)), witE 503 (tS5 m4 a c b) (emEnd (L m4) + 2) (S (putW [tM m4 a c b])), isS 505 (tLay_at (s := tS5 m4 a c b) (i := emEnd (L m4) + 2) (n := tM m4 a c b) (by as_aux_lemma => omega) (by as_aux_lemma => omega)), isI 519 .i64 (tEv_is (m := m4) (X := tS6 m4 a c b) (by as_aux_lemma => omega) hd), sH 526 9 .i64 m4 (tEv m4), sH 533 9 .i64 (tS6 m4 a c b) (tEv m4), updQ 534 m2 (m4.extract 0 (tEv m4).toNat) ((tS6 m4 a c b).extract 0 (tEv m4).toNat) (Eq.refl (tSum m4 (tS6 m4 a c b) m2)), isI 549 .i64 (tLen out m4 (tS6 m4 a c b) (by as_aux_lemma => omega) (by as_aux_lemma => omega)), witE 562 out ((out.size : Int) - (m4.size : Int)) (tS6 m4 a c b), isS 564 (tO1_is (m := m4) (out := out) (X := tS6 m4 a c b) (by as_aux_lemma => omega) (by as_aux_lemma => omega)), isI 579 .i64 (tLen out m4 (tS6 m4 a c b) (by as_aux_lemma => omega) (by as_aux_lemma => omega)), isI 580 .i64 (tLen8 out m4 ho2), isI 581 .i64 (tLen6 out m4 ho2), worE 584 16 [tSum m4 (tS6 m4 a c b) m2] (b1 (tSum_bd _ hm2)), witE 592 (tO1 out m4 (tS6 m4 a c b)) ((out.size : Int) - (m4.size : Int) - 6) (S (putW [tSum m4 (tS6 m4 a c b) m2])), isS 594 (tO2_is (m := m4) (out := out) (X := tS6 m4 a c b) m2 (by as_aux_lemma => omega) (by as_aux_lemma => omega))])
                          · have h13q := by simpa using h13
                            exact run (args := [.string s, .agg #[.int .u32 oa, .int .u16 ob, .int .u32 oc, .int .u16 od], .agg #[.int .u32 a, .int .u16 b, .int .u32 c, .int .u16 d]]) (p13 ++ [yes 283 h13])
                  · have h9q := by simpa using h9
                    exfalso; first | omega | simp_all
                · have h8q := by simpa using h8
                  exfalso; first | omega | simp_all
              · have h7q := by simpa using h7
                exact run (args := [.string s, .agg #[.int .u32 oa, .int .u16 ob, .int .u32 oc, .int .u16 od], .agg #[.int .u32 a, .int .u16 b, .int .u32 c, .int .u16 d]]) (p7 ++ [yes 108 h7])
            · have h6q := of_decide_eq_true h6
              exact run (args := [.string s, .agg #[.int .u32 oa, .int .u16 ob, .int .u32 oc, .int .u16 od], .agg #[.int .u32 a, .int .u16 b, .int .u32 c, .int .u16 d]]) (p6 ++ [isT 86 h6])
          · have h5q := of_decide_eq_true h5
            exact run (args := [.string s, .agg #[.int .u32 oa, .int .u16 ob, .int .u32 oc, .int .u16 od], .agg #[.int .u32 a, .int .u16 b, .int .u32 c, .int .u16 d]]) (p5 ++ [isT 76 h5])
        · have h4q := by simpa using h4
          exact run (args := [.string s, .agg #[.int .u32 oa, .int .u16 ob, .int .u32 oc, .int .u16 od], .agg #[.int .u32 a, .int .u16 b, .int .u32 c, .int .u16 d]]) (p4 ++ [yes 61 h4])
      · have h3q := of_decide_eq_true h3
        exact run (args := [.string s, .agg #[.int .u32 oa, .int .u16 ob, .int .u32 oc, .int .u16 od], .agg #[.int .u32 a, .int .u16 b, .int .u32 c, .int .u16 d]]) (p3 ++ [isT 55 h3])
    · have h2q := by simpa using h2
      exact run (args := [.string s, .agg #[.int .u32 oa, .int .u16 ob, .int .u32 oc, .int .u16 od], .agg #[.int .u32 a, .int .u16 b, .int .u32 c, .int .u16 d]]) (p2 ++ [yes 24 h2])
  · have h1q := by simpa using h1
    exact run (args := [.string s, .agg #[.int .u32 oa, .int .u16 ob, .int .u32 oc, .int .u16 od], .agg #[.int .u32 a, .int .u16 b, .int .u32 c, .int .u16 d]]) (p1 ++ [yes 19 h1, yes 36 h1])
set_option maxHeartbeats 8000000 in
theorem et_o (s : ByteArray) (oa ob oc od a b c d : Int) (w : World) (x0 x1 x2 x3 x4 x5 x6 x8 xr a0 a1 a3 a4 a5 a6 r m0 m1 m2 ar : Int) (x7 a2 mk qa qi : Bool) (a7 l m3 m4 out : ByteArray) (hd : m4.size ≤ 140737488351232) (ha : 0 ≤ a ∧ a ≤ 4294967295) (hb : 0 ≤ b ∧ b ≤ 65535) (hc : 0 ≤ c ∧ c ≤ 4294967295) (hd2 : 0 ≤ d ∧ d ≤ 65535) (hm2 : 0 ≤ m2 ∧ m2 ≤ 65535) (ho : xr = 0 → x5 = 3 → ar = 0 → m4.size + 28 ≤ out.size ∧ out.size ≤ 140737488351232) (c1 : ∀ W, Below w.heap.size w W → Calls Tryz.prog 27 #[.string s] W (Ret (.tuple #[.agg #[.int .u8 x0, .int .u32 x1, .int .u16 x2, .int .u32 x3, .int .u16 x4, .int .i64 x5, .int .u8 x6, .bool x7, .int .u8 x8], .int .i64 xr]) W)) (c2 : ∀ W, Below w.heap.size w W → Calls Tryz.prog 74 #[.string s] W (Ret (.tuple #[.agg #[.int .u8 a0, .int .u16 a1, .bool a2, .int .u8 a3, .int .u8 a4, .int .u32 a5, .int .u32 a6, .string a7], .string l, .int .i64 r]) W)) (c3 : ∀ W, Below w.heap.size w W → Calls Tryz.prog 136 #[.string l] W (Ret (.tuple #[.agg #[.int .u8 m0, .int .u8 m1, .int .u16 m2, .string m3, .string m4], .bool mk]) W)) (c4 : ∀ W, Below w.heap.size w W → Calls Tryz.prog 182 #[.agg #[.int .u8 (at_ (L m4) (emEnd (L m4)).toNat), .int .u8 (at_ (L m4) (emEnd (L m4) + 1).toNat), .int .u16 0, .string { data := #[] }, .string { data := #[] }]] W (Ret (.tuple #[.bool qa, .bool qi]) W)) (c6 : ∀ W, Below w.heap.size w W → Calls Tryz.prog 65 #[.string s, .agg #[.int .u32 oa, .int .u16 ob, .int .u32 oc, .int .u16 od]] W (Ret (.tuple #[.string out, .int .i64 ar]) W)) (hp : at_ (L m4) 9 ≠ 6 ∧ at_ (L m4) 9 ≠ 17 ∧ at_ (L m4) 9 ≠ 1) : Calls Tryz.prog 66 #[.string s, .agg #[.int .u32 oa, .int .u16 ob, .int .u32 oc, .int .u16 od], .agg #[.int .u32 a, .int .u16 b, .int .u32 c, .int .u16 d]] w (Ret (et_1_v x0 x1 x2 x3 x4 x5 x6 x8 xr a0 a1 a3 a4 a5 a6 r m0 m1 m2 ar x7 a2 mk qa qi a7 l m3 m4 out s oa ob oc od a b c d) w) := by
  unfold et_1_v
  have hm : ∀ {a : ByteArray}, a.size ≤ 140737488351232 → a.size ≤ maxLen := fun h => by unfold maxLen; omega
  have b0 := at_bd (L m4) 0
  have b6 := get16_bd (L m4) 6
  have hE : 0 ≤ emEnd (L m4) ∧ emEnd (L m4) ≤ 60 := by unfold emEnd; omega
  have e1 := shr4 b0
  have e2 := and15 b0
  have e3 : IntKind.i64.wrap (at_ (L m4) 0 % 16) = at_ (L m4) 0 % 16 := wrap64_id (by as_aux_lemma => omega)
  have e4 : IntKind.i64.wrap (at_ (L m4) 0 % 16 * 4) = emEnd (L m4) := wrap64_id (by as_aux_lemma => omega)
  have e5 : IntKind.i64.wrap ((m4.size : Int) - 8) = (m4.size : Int) - 8 := wrap64_id (by as_aux_lemma => omega)
  have e6 := and8191 b6
  have e7 : IntKind.i64.wrap (emEnd (L m4) + 2) = emEnd (L m4) + 2 := wrap64_id (by as_aux_lemma => omega)
  have e8 : IntKind.i64.wrap (emEnd (L m4) + 1) = emEnd (L m4) + 1 := wrap64_id (by as_aux_lemma => omega)
  have e9 : IntKind.i64.wrap (emEnd (L m4) + 4) = emEnd (L m4) + 4 := wrap64_id (by as_aux_lemma => omega)
  have q16 : IntKind.i64.wrap (emEnd (L m4) + 16) = emEnd (L m4) + 16 := wrap64_id (by as_aux_lemma => omega)
  have q6 : IntKind.i64.wrap (emEnd (L m4) + 6) = emEnd (L m4) + 6 := wrap64_id (by as_aux_lemma => omega)
  have r16 : IntKind.i64.wrap (emEnd (L m4) + 16 + 2) = emEnd (L m4) + 16 + 2 := wrap64_id (by as_aux_lemma => omega)
  have r6 : IntKind.i64.wrap (emEnd (L m4) + 6 + 2) = emEnd (L m4) + 6 + 2 := wrap64_id (by as_aux_lemma => omega)
  let p1 : List (Ev Tryz.prog (Amb.of w)) := [does 9 (args := [.string s]) c1]
  cases h1 : (xr != 0)
  · have h1q := by simpa using h1
    let p2 : List (Ev Tryz.prog (Amb.of w)) := p1 ++ [no 19 h1]
    cases h2 : (x5 != 3)
    · have h2q := by simpa using h2
      let p3 : List (Ev Tryz.prog (Amb.of w)) := p2 ++ [no 24 h2, does 26 (args := [.string s]) c2, does 36 (args := [.string l]) c3]
      cases h3 : (decide ((m4.size : Int) < 20))
      · have h3q := of_decide_eq_false h3
        let p4 : List (Ev Tryz.prog (Amb.of w)) := p3 ++ [isF 55 h3, sx 57 9 .i64 m4 0, isI 58 .u8 e1]
        cases h4 : (at_ (L m4) 0 / 16 != 4)
        · have h4q := by simpa using h4
          let p5 : List (Ev Tryz.prog (Amb.of w)) := p4 ++ [no 61 h4, sx 64 9 .i64 m4 0, isI 65 .u8 e2, isI 66 .i64 e3, isI 67 .i64 e4]
          cases h5 : (decide (emEnd (L m4) < 20))
          · have h5q := of_decide_eq_false h5
            let p6 : List (Ev Tryz.prog (Amb.of w)) := p5 ++ [isF 76 h5, isI 79 .i64 e5]
            cases h6 : (decide ((m4.size : Int) - 8 < emEnd (L m4)))
            · have h6q := of_decide_eq_false h6
              have g1 : 20 ≤ m4.size := by omega
              have g2 : 20 ≤ emEnd (L m4) := by omega
              have g3 : emEnd (L m4) + 8 ≤ m4.size := by omega
              have ze := tEv_bd (m := m4)
              have zw : (tWas m4).size = 12 := rfl
              have zn : (tNow a b c d).size = 12 := rfl
              have zi : (S (ipsOf a c)).size = 8 := rfl
              have z1 := tS1_size (m := m4) (a := a) (c := c) g1
              have z2 := tS2_size (m := m4) (a := a) (c := c) g1
              have z3 := tS3_size (m := m4) (a := a) (b := b) (c := c) (d := d) g1 g2 g3
              have z5 := tL_size (m := m4) (a := a) (b := b) (c := c) (d := d) 6 (tN m4 a b c d 6) g1 g2 g3 (by decide) (by as_aux_lemma => omega)
              have z6 := tL_size (m := m4) (a := a) (b := b) (c := c) (d := d) 6 65535 g1 g2 g3 (by decide) (by as_aux_lemma => omega)
              have z7 := tS6_size (m := m4) (a := a) (c := c) b g1 g2 g3
              have z8 := tS6_size (m := m4) (a := a) (c := c) d g1 g2 g3
              have yb := tS5_size (m := m4) (a := a) (c := c) b g1 g2 g3
              have yd := tS5_size (m := m4) (a := a) (c := c) d g1 g2 g3
              let p7 : List (Ev Tryz.prog (Amb.of w)) := p6 ++ [isF 86 h6, does 96 (args := [.string m4, .int .i64 6]) fun W _ => Get16 m4 6 W (hm (by as_aux_lemma => omega)) (by as_aux_lemma => omega), isI 105 .u16 e6]
              cases h7 : (get16 (L m4) 6 % 8192 != 0)
              · have h7q := by simpa using h7
                let p8 : List (Ev Tryz.prog (Amb.of w)) := p7 ++ [no 108 h7, sx 111 9 .i64 m4 9, does 121 (args := [.string m4, .int .i64 12]) fun W _ => Get32 m4 12 W (hm (by as_aux_lemma => omega)) (by as_aux_lemma => omega), does 140 (args := [.string m4, .int .i64 16]) fun W _ => Get32 m4 16 W (hm (by as_aux_lemma => omega)) (by as_aux_lemma => omega)]
                cases h8 : (at_ (L m4) 9 == 6)
                · have h8q := by simpa using h8
                  let p9 : List (Ev Tryz.prog (Amb.of w)) := p8 ++ [no 161 h8]
                  cases h9 : (at_ (L m4) 9 == 17)
                  · have h9q := by simpa using h9
                    let p10 : List (Ev Tryz.prog (Amb.of w)) := p9 ++ [no 164 h9]
                    cases h10 : (at_ (L m4) 9 == 1)
                    · have h10q := by simpa using h10
                      exact run (args := [.string s, .agg #[.int .u32 oa, .int .u16 ob, .int .u32 oc, .int .u16 od], .agg #[.int .u32 a, .int .u16 b, .int .u32 c, .int .u16 d]]) (p10 ++ [no 167 h10])
                    · have h10q := by simpa using h10
                      exfalso; omega
                  · have h9q := by simpa using h9
                    exfalso; omega
                · have h8q := by simpa using h8
                  exfalso; omega
              · have h7q := by simpa using h7
                exact run (args := [.string s, .agg #[.int .u32 oa, .int .u16 ob, .int .u32 oc, .int .u16 od], .agg #[.int .u32 a, .int .u16 b, .int .u32 c, .int .u16 d]]) (p7 ++ [yes 108 h7])
            · have h6q := of_decide_eq_true h6
              exact run (args := [.string s, .agg #[.int .u32 oa, .int .u16 ob, .int .u32 oc, .int .u16 od], .agg #[.int .u32 a, .int .u16 b, .int .u32 c, .int .u16 d]]) (p6 ++ [isT 86 h6])
          · have h5q := of_decide_eq_true h5
            exact run (args := [.string s, .agg #[.int .u32 oa, .int .u16 ob, .int .u32 oc, .int .u16 od], .agg #[.int .u32 a, .int .u16 b, .int .u32 c, .int .u16 d]]) (p5 ++ [isT 76 h5])
        · have h4q := by simpa using h4
          exact run (args := [.string s, .agg #[.int .u32 oa, .int .u16 ob, .int .u32 oc, .int .u16 od], .agg #[.int .u32 a, .int .u16 b, .int .u32 c, .int .u16 d]]) (p4 ++ [yes 61 h4])
      · have h3q := of_decide_eq_true h3
        exact run (args := [.string s, .agg #[.int .u32 oa, .int .u16 ob, .int .u32 oc, .int .u16 od], .agg #[.int .u32 a, .int .u16 b, .int .u32 c, .int .u16 d]]) (p3 ++ [isT 55 h3])
    · have h2q := by simpa using h2
      exact run (args := [.string s, .agg #[.int .u32 oa, .int .u16 ob, .int .u32 oc, .int .u16 od], .agg #[.int .u32 a, .int .u16 b, .int .u32 c, .int .u16 d]]) (p2 ++ [yes 24 h2])
  · have h1q := by simpa using h1
    exact run (args := [.string s, .agg #[.int .u32 oa, .int .u16 ob, .int .u32 oc, .int .u16 od], .agg #[.int .u32 a, .int .u16 b, .int .u32 c, .int .u16 d]]) (p1 ++ [yes 19 h1, yes 36 h1])
end Go.Proofs.YtilfcikhipadpaaGreatDoor
end
