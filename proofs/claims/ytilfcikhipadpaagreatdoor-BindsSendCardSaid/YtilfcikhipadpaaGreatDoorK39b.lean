/- Several texts of this claim, one behind the other. -/
import Derived.Test.YtilfcikhipadpaaGreatDoorK38b

section
/- The document's answer for rewrite (porterref09): Head and Ports, over this program. -/
set_option linter.unusedVariables false
set_option linter.unusedSimpArgs false
namespace Go.Proofs.YtilfcikhipadpaaGreatDoor
open Go.RowKit
attribute [local go_sem] Oper.semAt_some

theorem rn_Head (a b c d : Int) (s : ByteArray) (w : World) (ha : 0 ≤ a ∧ a ≤ 4294967295) (hc : 0 ≤ c ∧ c ≤ 4294967295) (hs : s.size ≤ 1000) (h20 : 20 ≤ s.size) (h1 : 1 ≤ at_ (L s) 8) :
    Calls Tryz.prog 112 #[.string s, .agg #[.int .u32 a, .int .u16 b, .int .u32 c, .int .u16 d]] w (Ret (.string (S (headNew (L s) a c))) w) := by
  have hl : 20 ≤ (L s).length := by rw [L_length]; exact h20
  have hb8 := at_bd (L s) 8
  have e8 : (((s[8]'(by omega)).toNat : Nat) : Int) = at_ (L s) 8 := by rw [getElem_L s 8 (by omega)]; rfl
  have hnb := updates_bd (a := (((L s).drop 8).take 2 ++ ((L s).drop 12).take 8)) (b := (lifeOf (L s) ++ ipsOf a c)) (be16_bd (L s) 10)
  have hipl : (ipsOf a c).length = 8 := rfl
  have wx : IntKind.u8.wrap (at_ (L s) 8 - 1) = at_ (L s) 8 - 1 := by rw [IntKind.wrap_u8]; omega
  have cv : ∀ (W : World) (g : Nat), W.cell? ⟨g, 0, none⟩ = some (.int .u8 (at_ (L s) 8 - 1)) → (convert 237 9 (.slice (some ⟨g, 0, none⟩) 1 1)).run Tryz.prog W = .ok (.string (S [byt (at_ (L s) 8 - 1)])) W := fun W g h0 => by
    exact run_convert_bytes_arg (P := Tryz.prog) W 237 5 Tryz.underlying237 Tryz.underlying5 g 0 1 1 [at_ (L s) 8 - 1] rfl
      (fun i hi => by
        match i, hi with
        | 0, _ => exact h0) 9 Tryz.underlying9
  have hm1 : (L s).take 8 ++ (L (S [byt (at_ (L s) 8 - 1)]) ++ (L s).drop (8 + (S [byt (at_ (L s) 8 - 1)]).size)) = (L s).take 8 ++ ([byt (at_ (L s) 8 - 1)] ++ (L s).drop 9) := by rw [L_S]; rfl
  have f1 := fun W => rn_With s 8 (S [byt (at_ (L s) 8 - 1)]) W (by omega) (by rw [S_size]; simp; omega)
  rw [hm1] at f1
  have hz1 : (S ((L s).take 8 ++ ([byt (at_ (L s) 8 - 1)] ++ (L s).drop 9))).size = s.size := by rw [S_size]; simp [L_length]; omega
  have f2 := fun W => rn_Pair a b c d W ha hc
  have f3 := fun W => rn_With (S ((L s).take 8 ++ ([byt (at_ (L s) 8 - 1)] ++ (L s).drop 9))) 12 (S (ipsOf a c)) W (by omega) (by rw [S_size (ipsOf a c), hipl]; omega)
  rw [show (12 : Nat) + (S (ipsOf a c)).size = 20 from by rw [S_size, hipl], L_S, L_S, headMid_1 (L s) hl] at f3
  have hz2 : (S (headMid (L s) a c)).size = s.size := by rw [S_size, headMid_length _ hl, L_length]
  have f4 := fun W => rn_Word s 10 W (by omega) (by omega)
  have hp1 : L (s.extract 8 10 ++ s.extract 12 20) = ((L s).drop 8).take 2 ++ ((L s).drop 12).take 8 := by rw [L_append, L_extract, L_extract]
  have hp2 : L ((S (headMid (L s) a c)).extract 8 10 ++ (S (headMid (L s) a c)).extract 12 20) = lifeOf (L s) ++ ipsOf a c := by
    rw [L_append, L_extract, L_extract, L_S, headMid_8 _ hl, headMid_12 _ hl]
  have f5 := fun W => r_Updates (be16 (L s) 10) (s.extract 8 10 ++ s.extract 12 20) ((S (headMid (L s) a c)).extract 8 10 ++ (S (headMid (L s) a c)).extract 12 20) W (be16_bd _ _) (by rw [ByteArray.size_append, ByteArray.size_extract, ByteArray.size_extract]; omega) (by rw [ByteArray.size_append, ByteArray.size_extract, ByteArray.size_extract]; omega)
  rw [hp1, hp2] at f5
  have f6 := fun W => r_Put16 _ W hnb.1 hnb.2
  have f7 := fun W => rn_With (S (headMid (L s) a c)) 10 (S (put16 (updates (be16 (L s) 10) (((L s).drop 8).take 2 ++ ((L s).drop 12).take 8) (lifeOf (L s) ++ ipsOf a c)))) W (by omega) (by rw [S_size (put16 _), put16_length]; omega)
  rw [show (10 : Nat) + (S (put16 (updates (be16 (L s) 10) (((L s).drop 8).take 2 ++ ((L s).drop 12).take 8) (lifeOf (L s) ++ ipsOf a c)))).size = 12 from by rw [S_size, put16_length], L_S, L_S, headMid_2 (L s) hl] at f7
  exact rn_Head_w a b c d s w _ _ _ _ _ _ _ _ _ hs h20 (by omega) (by omega) e8 wx cv f1 f2 f3 f4 f5 f6 f7
end Go.Proofs.YtilfcikhipadpaaGreatDoor
end

section
/- The document's answer for rewrite (porterref09): Ports, over this program. -/
set_option linter.unusedVariables false
set_option linter.unusedSimpArgs false
namespace Go.Proofs.YtilfcikhipadpaaGreatDoor
open Go.RowKit Go.Lib Rx

theorem rn_Ports (a b c d : Int) (l ips : ByteArray) (k : Nat) (kk : Int) (w : World) (hk : (k = 16 ∧ kk = 16) ∨ (k = 6 ∧ kk = 6)) (ha : 0 ≤ a ∧ a ≤ 4294967295) (hb : 0 ≤ b ∧ b ≤ 65535) (hc : 0 ≤ c ∧ c ≤ 4294967295) (hd : 0 ≤ d ∧ d ≤ 65535) (hl : l.size ≤ 1000000) (h20 : k + 2 ≤ l.size) (hi : ips.size = 8) :
    Calls Tryz.prog 113 #[.string l, .string ips, .agg #[.int .u32 a, .int .u16 b, .int .u32 c, .int .u16 d], .int .i64 kk] w (Ret (.string (S (flowNew (L l) (L ips) a b c d k))) w) := by
  have hL : k + 2 ≤ (L l).length := by rw [L_length]; exact h20
  have hk4 : 6 ≤ k := by omega
  have hns := flowSum_bd (L l) (L ips) a b c d k
  have hnf := flowFix_bd (k := k) (was := be16 (L l) k) hns
  have hz : (putW [b, d] ++ (L l).drop 4).length = l.size := by rw [List.length_append, List.length_drop, L_length]; show 4 + _ = _; omega
  have z0 : (S (putW [b, d])).size = 4 := rfl
  have z8 : (S (ipsOf a c)).size = 8 := rfl
  have f2 := fun W => rn_Word l k W (by omega) h20
  have f4 := fun W => rn_Pair a b c d W ha hc
  have f6 := fun W => r_Updates (be16 (L l) k) (ips ++ l.extract 0 4) (S (ipsOf a c) ++ S (putW [b, d])) W (be16_bd _ _) (by rw [ByteArray.size_append, ByteArray.size_extract]; omega) (by rw [ByteArray.size_append, z0, z8]; omega)
  rw [L_append, L_append, L_extract, L_S, L_S, show ((L l).drop 0).take 4 = (L l).take 4 from rfl] at f6
  have f7 := fun W => rn_With l 0 (S (putW [b, d])) W (by omega) (by rw [z0]; omega)
  rw [show (L l).take 0 ++ (L (S (putW [b, d])) ++ (L l).drop (0 + (S (putW [b, d])).size)) = putW [b, d] ++ (L l).drop 4 from by rw [L_S]; rfl, show ((0 : Nat) : Int) = 0 from rfl] at f7
  have f8 := fun W => r_Put16 (flowFix k (be16 (L l) k) (flowSum (L l) (L ips) a b c d k)) W hnf.1 hnf.2
  have f9 := fun W => rn_With (S (putW [b, d] ++ (L l).drop 4)) k (S (put16 (flowFix k (be16 (L l) k) (flowSum (L l) (L ips) a b c d k)))) W (by rw [S_size, hz]; omega) (by rw [S_size, S_size, hz, put16_length]; omega)
  have e9 : (L (S (putW [b, d] ++ (L l).drop 4))).take k ++ (L (S (put16 (flowFix k (be16 (L l) k) (flowSum (L l) (L ips) a b c d k)))) ++ (L (S (putW [b, d] ++ (L l).drop 4))).drop (k + (S (put16 (flowFix k (be16 (L l) k) (flowSum (L l) (L ips) a b c d k)))).size)) = flowNew (L l) (L ips) a b c d k := by
    rw [L_S, L_S, ← List.append_assoc]; rfl
  rw [e9] at f9
  have zx : (l.extract 0 4).size = 4 := by rw [ByteArray.size_extract]; omega
  rcases hk with ⟨rfl, rfl⟩ | ⟨rfl, rfl⟩
  · rw [show ((16 : Nat) : Int) = 16 from rfl] at f2 f9
    rw [show flowFix 16 (be16 (L l) 16) (flowSum (L l) (L ips) a b c d 16) = (flowSum (L l) (L ips) a b c d 16) from by unfold flowFix; rw [if_neg (by decide)]] at f8 f9
    exact run (args := [.string l, .string ips, .agg #[.int .u32 a, .int .u16 b, .int .u32 c, .int .u16 d], .int .i64 16]) [dworE 9 1 [b, d] (b2 hb hd), does 13 (args := [.string l, .int .i64 16]) (fun W _ => f2 W), sH 18 9 .i64 l 4, cat 19 9 ips (l.extract 0 4), does 21 (args := [.agg #[.int .u32 a, .int .u16 b, .int .u32 c, .int .u16 d]]) (fun W _ => f4 W), cat 23 9 (S (ipsOf a c)) (S (putW [b, d])), does 24 (args := [.int .u16 (be16 (L l) 16), .string (ips ++ l.extract 0 4), .string (S (ipsOf a c) ++ S (putW [b, d]))]) (fun W _ => f6 W), does 42 (args := [.string l, .int .i64 0, .string (S (putW [b, d]))]) (fun W _ => f7 W), does 45 (args := [.int .u16 (flowSum (L l) (L ips) a b c d 16)]) (fun W _ => f8 W), does 46 (args := [.string (S (putW [b, d] ++ (L l).drop 4)), .int .i64 16, .string (S (put16 (flowSum (L l) (L ips) a b c d 16)))]) (fun W _ => f9 W)]
  · rw [show ((6 : Nat) : Int) = 6 from rfl] at f2 f9
    by_cases hv : be16 (L l) 6 = 0
    · rw [show flowFix 6 (be16 (L l) 6) (flowSum (L l) (L ips) a b c d 6) = 0 from by unfold flowFix; rw [if_pos rfl, if_pos hv]] at f8 f9
      exact run (args := [.string l, .string ips, .agg #[.int .u32 a, .int .u16 b, .int .u32 c, .int .u16 d], .int .i64 6]) [dworE 9 1 [b, d] (b2 hb hd), does 13 (args := [.string l, .int .i64 6]) (fun W _ => f2 W), sH 18 9 .i64 l 4, cat 19 9 ips (l.extract 0 4), does 21 (args := [.agg #[.int .u32 a, .int .u16 b, .int .u32 c, .int .u16 d]]) (fun W _ => f4 W), cat 23 9 (S (ipsOf a c)) (S (putW [b, d])), does 24 (args := [.int .u16 (be16 (L l) 6), .string (ips ++ l.extract 0 4), .string (S (ipsOf a c) ++ S (putW [b, d]))]) (fun W _ => f6 W), yes 32 (b := bif (6 : Int) == 6 then be16 (L l) 6 == 0 else false) (by simpa using hv), does 36 (args := [.string l, .int .i64 0, .string (S (putW [b, d]))]) (fun W _ => f7 W), does 39 (args := [.int .u16 0]) (fun W _ => f8 W), does 40 (args := [.string (S (putW [b, d] ++ (L l).drop 4)), .int .i64 6, .string (S (put16 0))]) (fun W _ => f9 W)]
    have g32 : (bif (6 : Int) == 6 then be16 (L l) 6 == 0 else false) = false := by simpa using hv
    by_cases hn : (flowSum (L l) (L ips) a b c d 6) = 0
    · rw [show flowFix 6 (be16 (L l) 6) (flowSum (L l) (L ips) a b c d 6) = 65535 from by unfold flowFix; rw [if_pos rfl, if_neg hv, if_pos hn]] at f8 f9
      exact run (args := [.string l, .string ips, .agg #[.int .u32 a, .int .u16 b, .int .u32 c, .int .u16 d], .int .i64 6]) [dworE 9 1 [b, d] (b2 hb hd), does 13 (args := [.string l, .int .i64 6]) (fun W _ => f2 W), sH 18 9 .i64 l 4, cat 19 9 ips (l.extract 0 4), does 21 (args := [.agg #[.int .u32 a, .int .u16 b, .int .u32 c, .int .u16 d]]) (fun W _ => f4 W), cat 23 9 (S (ipsOf a c)) (S (putW [b, d])), does 24 (args := [.int .u16 (be16 (L l) 6), .string (ips ++ l.extract 0 4), .string (S (ipsOf a c) ++ S (putW [b, d]))]) (fun W _ => f6 W), no 32 g32, yes 39 (b := bif (6 : Int) == 6 then (flowSum (L l) (L ips) a b c d 6) == 0 else false) (by simpa using hn), does 43 (args := [.string l, .int .i64 0, .string (S (putW [b, d]))]) (fun W _ => f7 W), does 46 (args := [.int .u16 65535]) (fun W _ => f8 W), does 47 (args := [.string (S (putW [b, d] ++ (L l).drop 4)), .int .i64 6, .string (S (put16 65535))]) (fun W _ => f9 W)]
    · rw [show flowFix 6 (be16 (L l) 6) (flowSum (L l) (L ips) a b c d 6) = (flowSum (L l) (L ips) a b c d 6) from by unfold flowFix; rw [if_pos rfl, if_neg hv, if_neg hn]] at f8 f9
      exact run (args := [.string l, .string ips, .agg #[.int .u32 a, .int .u16 b, .int .u32 c, .int .u16 d], .int .i64 6]) [dworE 9 1 [b, d] (b2 hb hd), does 13 (args := [.string l, .int .i64 6]) (fun W _ => f2 W), sH 18 9 .i64 l 4, cat 19 9 ips (l.extract 0 4), does 21 (args := [.agg #[.int .u32 a, .int .u16 b, .int .u32 c, .int .u16 d]]) (fun W _ => f4 W), cat 23 9 (S (ipsOf a c)) (S (putW [b, d])), does 24 (args := [.int .u16 (be16 (L l) 6), .string (ips ++ l.extract 0 4), .string (S (ipsOf a c) ++ S (putW [b, d]))]) (fun W _ => f6 W), no 32 g32, no 39 (b := bif (6 : Int) == 6 then (flowSum (L l) (L ips) a b c d 6) == 0 else false) (by simpa using hn), does 42 (args := [.string l, .int .i64 0, .string (S (putW [b, d]))]) (fun W _ => f7 W), does 45 (args := [.int .u16 (flowSum (L l) (L ips) a b c d 6)]) (fun W _ => f8 W), does 46 (args := [.string (S (putW [b, d] ++ (L l).drop 4)), .int .i64 6, .string (S (put16 (flowSum (L l) (L ips) a b c d 6)))]) (fun W _ => f9 W)]
end Go.Proofs.YtilfcikhipadpaaGreatDoor
end

section
/- The document's answer for rewrite (porterref09): Apply, over this program. -/
set_option linter.unusedVariables false
set_option linter.unusedSimpArgs false
namespace Go.Proofs.YtilfcikhipadpaaGreatDoor
open Go.RowKit Go.Lib Rx
attribute [local go_sem] Oper.semAt_some

theorem rn_Apply_bad (a b c d : Int) (x0 x1 x2 x3 x4 x5 x6 x8 : Int) (x7 : Bool) (s : ByteArray) (r : Int) (hr : r ≠ 0) (w : World)
    (c1 : ∀ W, Calls Tryz.prog 37 #[.string s] W (Ret (.tuple #[.agg #[.int .u8 x0, .int .u32 x1, .int .u16 x2, .int .u32 x3, .int .u16 x4, .int .i64 x5, .int .u8 x6, .bool x7, .int .u8 x8], .int .i64 r]) W)) :
    Calls Tryz.prog 70 #[.string s, .agg #[.int .u32 a, .int .u16 b, .int .u32 c, .int .u16 d]] w (Ret (.tuple #[.string { data := #[] }, .int .i64 r]) w) := by
  exact run (args := [.string s, .agg #[.int .u32 a, .int .u16 b, .int .u32 c, .int .u16 d]]) [does 4 (args := [.string s]) (fun W _ => c1 W), yes 13 (bne_iff_ne.2 hr)]
theorem rn_Apply_ttl (a b c d : Int) (x0 x1 x2 x3 x4 x5 x6 x8 : Int) (x7 : Bool) (s : ByteArray) (hr : x8 < 2) (w : World)
    (c1 : ∀ W, Calls Tryz.prog 37 #[.string s] W (Ret (.tuple #[.agg #[.int .u8 x0, .int .u32 x1, .int .u16 x2, .int .u32 x3, .int .u16 x4, .int .i64 x5, .int .u8 x6, .bool x7, .int .u8 x8], .int .i64 0]) W)) :
    Calls Tryz.prog 70 #[.string s, .agg #[.int .u32 a, .int .u16 b, .int .u32 c, .int .u16 d]] w (Ret (.tuple #[.string { data := #[] }, .int .i64 8]) w) := by
  exact run (args := [.string s, .agg #[.int .u32 a, .int .u16 b, .int .u32 c, .int .u16 d]]) [does 4 (args := [.string s]) (fun W _ => c1 W), yes 17 (decide_eq_true hr)]
theorem rn_Apply_tcp (a b c d : Int) (x0 x1 x2 x3 x4 x5 x6 x8 : Int) (x7 : Bool) (h0 h1 h3 h4 h5 h6 : Int) (h2 : Bool) (o l : ByteArray) (y : Int) (s : ByteArray) (t1 t2 : ByteArray) (hr : ¬ x8 < 2) (hs : s.size ≤ 140737488351232) (h20 : 20 ≤ s.size) (hy : 0 ≤ y ∧ y ≤ 255) (e0 : (((s[0]'(by omega)).toNat : Nat) : Int) = y) (ho : y % 16 * 4 ≤ s.size) (hz : t1.size + t2.size ≤ 1000000) (hp : x0 = 6) (w : World)
    (c1 : ∀ W, Calls Tryz.prog 37 #[.string s] W (Ret (.tuple #[.agg #[.int .u8 x0, .int .u32 x1, .int .u16 x2, .int .u32 x3, .int .u16 x4, .int .i64 x5, .int .u8 x6, .bool x7, .int .u8 x8], .int .i64 0]) W))
    (c2 : ∀ W, Calls Tryz.prog 81 #[.string s] W (Ret (.tuple #[.agg #[.int .u8 h0, .int .u16 h1, .bool h2, .int .u8 h3, .int .u8 h4, .int .u32 h5, .int .u32 h6, .string o], .string l, .int .i64 0]) W))
    (c3 : ∀ W, Calls Tryz.prog 112 #[.string (s.extract 0 (y % 16 * 4).toNat), .agg #[.int .u32 a, .int .u16 b, .int .u32 c, .int .u16 d]] W (Ret (.string t1) W))
    (c4 : ∀ W, Calls Tryz.prog 113 #[.string l, .string (s.extract 12 20), .agg #[.int .u32 a, .int .u16 b, .int .u32 c, .int .u16 d], .int .i64 16] W (Ret (.string t2) W)) :
    Calls Tryz.prog 70 #[.string s, .agg #[.int .u32 a, .int .u16 b, .int .u32 c, .int .u16 d]] w (Ret (.tuple #[.string (t1 ++ t2), .int .i64 0]) w) := by
  obtain rfl : y = at_ (L s) 0 := by rw [← e0, getElem_L s 0 (by omega)]; rfl
  have ew : IntKind.i64.wrap (IntKind.i64.wrap ((at_ (L s) 0).tmod 16) * 4) = at_ (L s) 0 % 16 * 4 := by rw [Int.tmod_eq_emod_of_nonneg hy.1, wrap64_id (x := at_ (L s) 0 % 16) (by omega), wrap64_id (by omega)]
  rw [← ew] at c3
  let p1 : List (Ev Tryz.prog (Amb.of w)) := [does 4 (args := [.string s]) (fun W _ => c1 W), no 17 (decide_eq_false hr), does 19 (args := [.string s]) (fun W _ => c2 W), sx 29 9 .i64 s 0, sH 36 9 .i64 s (IntKind.i64.wrap (IntKind.i64.wrap ((at_ (L s) 0).tmod 16) * 4)), does 38 (args := [.string (s.extract 0 (IntKind.i64.wrap (IntKind.i64.wrap ((at_ (L s) 0).tmod 16) * 4)).toNat), .agg #[.int .u32 a, .int .u16 b, .int .u32 c, .int .u16 d]]) (fun W _ => c3 W)]
  exact run (args := [.string s, .agg #[.int .u32 a, .int .u16 b, .int .u32 c, .int .u16 d]]) (p1 ++ [yes 44 (b := x0 == 6) (by simpa using hp), sLH 48 9 .i64 .i64 s 12 20, does 50 (args := [.string l, .string (s.extract 12 20), .agg #[.int .u32 a, .int .u16 b, .int .u32 c, .int .u16 d], .int .i64 16]) (fun W _ => c4 W), cat 51 9 t1 t2])
theorem rn_Apply_udp (a b c d : Int) (x0 x1 x2 x3 x4 x5 x6 x8 : Int) (x7 : Bool) (h0 h1 h3 h4 h5 h6 : Int) (h2 : Bool) (o l : ByteArray) (y : Int) (s : ByteArray) (t1 t2 : ByteArray) (hr : ¬ x8 < 2) (hs : s.size ≤ 140737488351232) (h20 : 20 ≤ s.size) (hy : 0 ≤ y ∧ y ≤ 255) (e0 : (((s[0]'(by omega)).toNat : Nat) : Int) = y) (ho : y % 16 * 4 ≤ s.size) (hz : t1.size + t2.size ≤ 1000000) (hp : x0 = 17) (w : World)
    (c1 : ∀ W, Calls Tryz.prog 37 #[.string s] W (Ret (.tuple #[.agg #[.int .u8 x0, .int .u32 x1, .int .u16 x2, .int .u32 x3, .int .u16 x4, .int .i64 x5, .int .u8 x6, .bool x7, .int .u8 x8], .int .i64 0]) W))
    (c2 : ∀ W, Calls Tryz.prog 81 #[.string s] W (Ret (.tuple #[.agg #[.int .u8 h0, .int .u16 h1, .bool h2, .int .u8 h3, .int .u8 h4, .int .u32 h5, .int .u32 h6, .string o], .string l, .int .i64 0]) W))
    (c3 : ∀ W, Calls Tryz.prog 112 #[.string (s.extract 0 (y % 16 * 4).toNat), .agg #[.int .u32 a, .int .u16 b, .int .u32 c, .int .u16 d]] W (Ret (.string t1) W))
    (c4 : ∀ W, Calls Tryz.prog 113 #[.string l, .string (s.extract 12 20), .agg #[.int .u32 a, .int .u16 b, .int .u32 c, .int .u16 d], .int .i64 6] W (Ret (.string t2) W)) :
    Calls Tryz.prog 70 #[.string s, .agg #[.int .u32 a, .int .u16 b, .int .u32 c, .int .u16 d]] w (Ret (.tuple #[.string (t1 ++ t2), .int .i64 0]) w) := by
  obtain rfl : y = at_ (L s) 0 := by rw [← e0, getElem_L s 0 (by omega)]; rfl
  have ew : IntKind.i64.wrap (IntKind.i64.wrap ((at_ (L s) 0).tmod 16) * 4) = at_ (L s) 0 % 16 * 4 := by rw [Int.tmod_eq_emod_of_nonneg hy.1, wrap64_id (x := at_ (L s) 0 % 16) (by omega), wrap64_id (by omega)]
  rw [← ew] at c3
  let p1 : List (Ev Tryz.prog (Amb.of w)) := [does 4 (args := [.string s]) (fun W _ => c1 W), no 17 (decide_eq_false hr), does 19 (args := [.string s]) (fun W _ => c2 W), sx 29 9 .i64 s 0, sH 36 9 .i64 s (IntKind.i64.wrap (IntKind.i64.wrap ((at_ (L s) 0).tmod 16) * 4)), does 38 (args := [.string (s.extract 0 (IntKind.i64.wrap (IntKind.i64.wrap ((at_ (L s) 0).tmod 16) * 4)).toNat), .agg #[.int .u32 a, .int .u16 b, .int .u32 c, .int .u16 d]]) (fun W _ => c3 W)]
  exact run (args := [.string s, .agg #[.int .u32 a, .int .u16 b, .int .u32 c, .int .u16 d]]) (p1 ++ [no 44 (b := x0 == 6) (by simp; omega), yes 49 (b := x0 == 17) (by simpa using hp), sLH 53 9 .i64 .i64 s 12 20, does 55 (args := [.string l, .string (s.extract 12 20), .agg #[.int .u32 a, .int .u16 b, .int .u32 c, .int .u16 d], .int .i64 6]) (fun W _ => c4 W), cat 56 9 t1 t2])
theorem rn_Apply_err (a b c d : Int) (x0 x1 x2 x3 x4 x5 x6 x8 : Int) (x7 : Bool) (h0 h1 h3 h4 h5 h6 : Int) (h2 : Bool) (o l : ByteArray) (y : Int) (s : ByteArray) (t1 t2 : ByteArray) (hr : ¬ x8 < 2) (hs : s.size ≤ 140737488351232) (h20 : 20 ≤ s.size) (hy : 0 ≤ y ∧ y ≤ 255) (e0 : (((s[0]'(by omega)).toNat : Nat) : Int) = y) (ho : y % 16 * 4 ≤ s.size) (hz : t1.size + t2.size ≤ 1000000) (hp : x0 ≠ 6 ∧ x0 ≠ 17) (hk : x5 = 3) (ht : t2 = l) (w : World)
    (c1 : ∀ W, Calls Tryz.prog 37 #[.string s] W (Ret (.tuple #[.agg #[.int .u8 x0, .int .u32 x1, .int .u16 x2, .int .u32 x3, .int .u16 x4, .int .i64 x5, .int .u8 x6, .bool x7, .int .u8 x8], .int .i64 0]) W))
    (c2 : ∀ W, Calls Tryz.prog 81 #[.string s] W (Ret (.tuple #[.agg #[.int .u8 h0, .int .u16 h1, .bool h2, .int .u8 h3, .int .u8 h4, .int .u32 h5, .int .u32 h6, .string o], .string l, .int .i64 0]) W))
    (c3 : ∀ W, Calls Tryz.prog 112 #[.string (s.extract 0 (y % 16 * 4).toNat), .agg #[.int .u32 a, .int .u16 b, .int .u32 c, .int .u16 d]] W (Ret (.string t1) W)) :
    Calls Tryz.prog 70 #[.string s, .agg #[.int .u32 a, .int .u16 b, .int .u32 c, .int .u16 d]] w (Ret (.tuple #[.string (t1 ++ t2), .int .i64 0]) w) := by
  obtain rfl : y = at_ (L s) 0 := by rw [← e0, getElem_L s 0 (by omega)]; rfl
  have ew : IntKind.i64.wrap (IntKind.i64.wrap ((at_ (L s) 0).tmod 16) * 4) = at_ (L s) 0 % 16 * 4 := by rw [Int.tmod_eq_emod_of_nonneg hy.1, wrap64_id (x := at_ (L s) 0 % 16) (by omega), wrap64_id (by omega)]
  rw [← ew] at c3
  let p1 : List (Ev Tryz.prog (Amb.of w)) := [does 4 (args := [.string s]) (fun W _ => c1 W), no 17 (decide_eq_false hr), does 19 (args := [.string s]) (fun W _ => c2 W), sx 29 9 .i64 s 0, sH 36 9 .i64 s (IntKind.i64.wrap (IntKind.i64.wrap ((at_ (L s) 0).tmod 16) * 4)), does 38 (args := [.string (s.extract 0 (IntKind.i64.wrap (IntKind.i64.wrap ((at_ (L s) 0).tmod 16) * 4)).toNat), .agg #[.int .u32 a, .int .u16 b, .int .u32 c, .int .u16 d]]) (fun W _ => c3 W)]
  subst ht
  exact run (args := [.string s, .agg #[.int .u32 a, .int .u16 b, .int .u32 c, .int .u16 d]]) (p1 ++ [no 44 (b := x0 == 6) (by simpa using hp.1), no 49 (b := x0 == 17) (by simpa using hp.2), yes 53 (b := x5 == 3) (by simpa using hk), cat 56 9 t1 t2])
theorem rn_Apply_ask (a b c d : Int) (x0 x1 x2 x3 x4 x5 x6 x8 : Int) (x7 : Bool) (h0 h1 h3 h4 h5 h6 : Int) (h2 : Bool) (o l : ByteArray) (y : Int) (s : ByteArray) (t1 t2 : ByteArray) (hr : ¬ x8 < 2) (hs : s.size ≤ 140737488351232) (h20 : 20 ≤ s.size) (hy : 0 ≤ y ∧ y ≤ 255) (e0 : (((s[0]'(by omega)).toNat : Nat) : Int) = y) (ho : y % 16 * 4 ≤ s.size) (hz : t1.size + t2.size ≤ 1000000) (hp : x0 ≠ 6 ∧ x0 ≠ 17) (hk : x5 ≠ 3) (hq : x7 = true) (w : World)
    (c1 : ∀ W, Calls Tryz.prog 37 #[.string s] W (Ret (.tuple #[.agg #[.int .u8 x0, .int .u32 x1, .int .u16 x2, .int .u32 x3, .int .u16 x4, .int .i64 x5, .int .u8 x6, .bool x7, .int .u8 x8], .int .i64 0]) W))
    (c2 : ∀ W, Calls Tryz.prog 81 #[.string s] W (Ret (.tuple #[.agg #[.int .u8 h0, .int .u16 h1, .bool h2, .int .u8 h3, .int .u8 h4, .int .u32 h5, .int .u32 h6, .string o], .string l, .int .i64 0]) W))
    (c3 : ∀ W, Calls Tryz.prog 112 #[.string (s.extract 0 (y % 16 * 4).toNat), .agg #[.int .u32 a, .int .u16 b, .int .u32 c, .int .u16 d]] W (Ret (.string t1) W))
    (c4 : ∀ W, Calls Tryz.prog 114 #[.string l, .int .u16 b] W (Ret (.string t2) W)) :
    Calls Tryz.prog 70 #[.string s, .agg #[.int .u32 a, .int .u16 b, .int .u32 c, .int .u16 d]] w (Ret (.tuple #[.string (t1 ++ t2), .int .i64 0]) w) := by
  obtain rfl : y = at_ (L s) 0 := by rw [← e0, getElem_L s 0 (by omega)]; rfl
  have ew : IntKind.i64.wrap (IntKind.i64.wrap ((at_ (L s) 0).tmod 16) * 4) = at_ (L s) 0 % 16 * 4 := by rw [Int.tmod_eq_emod_of_nonneg hy.1, wrap64_id (x := at_ (L s) 0 % 16) (by omega), wrap64_id (by omega)]
  rw [← ew] at c3
  let p1 : List (Ev Tryz.prog (Amb.of w)) := [does 4 (args := [.string s]) (fun W _ => c1 W), no 17 (decide_eq_false hr), does 19 (args := [.string s]) (fun W _ => c2 W), sx 29 9 .i64 s 0, sH 36 9 .i64 s (IntKind.i64.wrap (IntKind.i64.wrap ((at_ (L s) 0).tmod 16) * 4)), does 38 (args := [.string (s.extract 0 (IntKind.i64.wrap (IntKind.i64.wrap ((at_ (L s) 0).tmod 16) * 4)).toNat), .agg #[.int .u32 a, .int .u16 b, .int .u32 c, .int .u16 d]]) (fun W _ => c3 W)]
  exact run (args := [.string s, .agg #[.int .u32 a, .int .u16 b, .int .u32 c, .int .u16 d]]) (p1 ++ [no 44 (b := x0 == 6) (by simpa using hp.1), no 49 (b := x0 == 17) (by simpa using hp.2), no 53 (b := x5 == 3) (by simpa using hk), yes 56 hq, does 62 (args := [.string l, .int .u16 b]) (fun W _ => c4 W), cat 63 9 t1 t2])
theorem rn_Apply_told (a b c d : Int) (x0 x1 x2 x3 x4 x5 x6 x8 : Int) (x7 : Bool) (h0 h1 h3 h4 h5 h6 : Int) (h2 : Bool) (o l : ByteArray) (y : Int) (s : ByteArray) (t1 t2 : ByteArray) (hr : ¬ x8 < 2) (hs : s.size ≤ 140737488351232) (h20 : 20 ≤ s.size) (hy : 0 ≤ y ∧ y ≤ 255) (e0 : (((s[0]'(by omega)).toNat : Nat) : Int) = y) (ho : y % 16 * 4 ≤ s.size) (hz : t1.size + t2.size ≤ 1000000) (hp : x0 ≠ 6 ∧ x0 ≠ 17) (hk : x5 ≠ 3) (hq : x7 = false) (w : World)
    (c1 : ∀ W, Calls Tryz.prog 37 #[.string s] W (Ret (.tuple #[.agg #[.int .u8 x0, .int .u32 x1, .int .u16 x2, .int .u32 x3, .int .u16 x4, .int .i64 x5, .int .u8 x6, .bool x7, .int .u8 x8], .int .i64 0]) W))
    (c2 : ∀ W, Calls Tryz.prog 81 #[.string s] W (Ret (.tuple #[.agg #[.int .u8 h0, .int .u16 h1, .bool h2, .int .u8 h3, .int .u8 h4, .int .u32 h5, .int .u32 h6, .string o], .string l, .int .i64 0]) W))
    (c3 : ∀ W, Calls Tryz.prog 112 #[.string (s.extract 0 (y % 16 * 4).toNat), .agg #[.int .u32 a, .int .u16 b, .int .u32 c, .int .u16 d]] W (Ret (.string t1) W))
    (c4 : ∀ W, Calls Tryz.prog 114 #[.string l, .int .u16 d] W (Ret (.string t2) W)) :
    Calls Tryz.prog 70 #[.string s, .agg #[.int .u32 a, .int .u16 b, .int .u32 c, .int .u16 d]] w (Ret (.tuple #[.string (t1 ++ t2), .int .i64 0]) w) := by
  obtain rfl : y = at_ (L s) 0 := by rw [← e0, getElem_L s 0 (by omega)]; rfl
  have ew : IntKind.i64.wrap (IntKind.i64.wrap ((at_ (L s) 0).tmod 16) * 4) = at_ (L s) 0 % 16 * 4 := by rw [Int.tmod_eq_emod_of_nonneg hy.1, wrap64_id (x := at_ (L s) 0 % 16) (by omega), wrap64_id (by omega)]
  rw [← ew] at c3
  let p1 : List (Ev Tryz.prog (Amb.of w)) := [does 4 (args := [.string s]) (fun W _ => c1 W), no 17 (decide_eq_false hr), does 19 (args := [.string s]) (fun W _ => c2 W), sx 29 9 .i64 s 0, sH 36 9 .i64 s (IntKind.i64.wrap (IntKind.i64.wrap ((at_ (L s) 0).tmod 16) * 4)), does 38 (args := [.string (s.extract 0 (IntKind.i64.wrap (IntKind.i64.wrap ((at_ (L s) 0).tmod 16) * 4)).toNat), .agg #[.int .u32 a, .int .u16 b, .int .u32 c, .int .u16 d]]) (fun W _ => c3 W)]
  exact run (args := [.string s, .agg #[.int .u32 a, .int .u16 b, .int .u32 c, .int .u16 d]]) (p1 ++ [no 44 (b := x0 == 6) (by simpa using hp.1), no 49 (b := x0 == 17) (by simpa using hp.2), no 53 (b := x5 == 3) (by simpa using hk), no 56 hq, does 62 (args := [.string l, .int .u16 d]) (fun W _ => c4 W), cat 63 9 t1 t2])
theorem rn_Apply (a b c d : Int) (s : ByteArray) (w : World) (ha : 0 ≤ a ∧ a ≤ 4294967295) (hb : 0 ≤ b ∧ b ≤ 65535) (hc : 0 ≤ c ∧ c ≤ 4294967295) (hd : 0 ≤ d ∧ d ≤ 65535) (hs : s.size ≤ 140737488351232) :
    Calls Tryz.prog 70 #[.string s, .agg #[.int .u32 a, .int .u16 b, .int .u32 c, .int .u16 d]] w (Ret (.tuple #[.string (rwOut s a b c d), .int .i64 (rwWhy s)]) w) := by
  have c1 := fun W => o_Of s W hs
  by_cases h1 : seenWhy s ≠ 0
  · have e1 : rwWhy s = seenWhy s := by unfold rwWhy; rw [if_pos h1]
    have e2 : rwOut s a b c d = { data := #[] } := by unfold rwOut; rw [e1, if_neg h1]
    rw [e1, e2]
    unfold Seen.cells at c1
    exact rn_Apply_bad a b c d _ _ _ _ _ _ _ _ _ s _ h1 w c1
  have h1' : seenWhy s = 0 := by omega
  rw [h1'] at c1
  by_cases h2 : (seenOf s).l < 2
  · have e1 : rwWhy s = 8 := by unfold rwWhy; rw [if_neg h1, if_pos h2]
    have e2 : rwOut s a b c d = { data := #[] } := by unfold rwOut; rw [e1, if_neg (by decide)]
    rw [e1, e2]
    unfold Seen.cells at c1
    exact rn_Apply_ttl a b c d _ _ _ _ _ _ _ _ _ s h2 w c1
  have e1 : rwWhy s = 0 := by unfold rwWhy; rw [if_neg h1, if_neg h2]
  have e2 : rwOut s a b c d = S (rwNew s a b c d) := by unfold rwOut; rw [if_pos e1]
  rw [e1, e2]
  have hip : ipWhy s = 0 := by
    unfold seenWhy at h1'
    by_cases h : ipWhy s = 0
    · exact h
    · rw [if_neg h] at h1'; exact h1'
  have hlw : loadWhy (hdOf s).p (ipRest s) = 0 := by unfold seenWhy at h1'; rwa [if_pos hip] at h1'
  have hso : seenOf s = loadSeen (hdOf s) (ipRest s) := by unfold seenOf; rw [if_pos h1']
  obtain ⟨a1, a2, a3, a4, a5, ho, a6, key, hh⟩ := ip_head s hip
  have hrest : ipRest s = s.extract (ipOwn (L s)).toNat (ipAll (L s)).toNat := by unfold ipRest; rw [if_pos hip]
  have hp : (ipRest s).size = (ipAll (L s)).toNat - (ipOwn (L s)).toNat := by rw [hrest, ByteArray.size_extract]; omega
  have hl : (seenOf s).l = at_ (L s) 8 := by
    rw [hso]; unfold loadSeen
    split
    · rfl
    split
    · rfl
    split
    · rfl
    split <;> rfl
  have hpp : (seenOf s).t.p = 6 → 20 ≤ (ipRest s).size := by
    intro h
    rw [hso] at h
    unfold loadSeen at h
    by_cases h6 : (hdOf s).p = 6
    · unfold loadWhy at hlw
      rw [if_pos h6] at hlw
      by_cases ht : tcpIs (ipRest s) = true
      · unfold tcpIs at ht; simp at ht; omega
      · rw [if_neg ht] at hlw; omega
    · rw [if_neg h6] at h
      split at h
      · simp at h
      split at h
      · simp at h
      split at h <;> simp at h
  have h8 : 8 ≤ (ipRest s).size := by
    unfold loadWhy at hlw
    split at hlw
    · split at hlw
      · rename_i ht; unfold tcpIs at ht; simp at ht; omega
      · omega
    split at hlw
    · split at hlw
      · rename_i ht; unfold udpIs at ht; simp at ht; omega
      · omega
    split at hlw
    · split at hlw <;> omega
    · omega
  have c2 := fun W => r4_Parse s W hs
  rw [show hdRes s = hdOf s from by unfold hdRes; rw [if_pos hip], hip] at c2
  have hxz : (s.extract 0 (ipOwn (L s)).toNat).size = (ipOwn (L s)).toNat := by rw [ByteArray.size_extract]; omega
  have hLx : L (s.extract 0 (ipOwn (L s)).toNat) = (L s).take (ipOwn (L s)).toNat := by rw [L_to]
  have h12 : (s.extract 12 20).size = 8 := by rw [ByteArray.size_extract]; omega
  have c3 := fun W => rn_Head a b c d (s.extract 0 (ipOwn (L s)).toNat) W ha hc (by omega) (by omega) (by rw [hLx, at_take (by omega)]; omega)
  rw [hLx] at c3
  have hL12 : L (s.extract 12 20) = ((L s).drop 12).take 8 := L_extract _ _ _
  have hz1 : (headNew ((L s).take (ipOwn (L s)).toNat) a c).length ≤ 100000 := by
    unfold headNew lifeOf
    simp [put16_length, show (ipsOf a c).length = 8 from rfl]
    omega
  have hz2 : (loadNew (seenOf s) (L (ipRest s)) (((L s).drop 12).take 8) a b c d).length ≤ 100000 := by
    have hq : (L (ipRest s)).length ≤ 2048 := by rw [L_length]; omega
    have hq8 : 8 ≤ (L (ipRest s)).length := by rw [L_length]; exact h8
    unfold loadNew
    split
    · rename_i g6
      have := hpp g6
      unfold flowNew
      rw [lay_length (by simp [putW_length, L_length]; omega)]
      simp [putW_length]; omega
    split
    · unfold flowNew
      rw [lay_length (by simp [putW_length]; omega)]
      simp [putW_length]; omega
    split
    · omega
    split
    · unfold queryOf; rw [lay_length (by rw [lay_length (by omega)]; omega), lay_length (by omega)]; omega
    · unfold queryOf; rw [lay_length (by rw [lay_length (by omega)]; omega), lay_length (by omega)]; omega
  have hout : S (headNew ((L s).take (ipOwn (L s)).toNat) a c) ++ S (loadNew (seenOf s) (L (ipRest s)) (((L s).drop 12).take 8) a b c d) = S (rwNew s a b c d) := by rw [S_append]; rfl
  rw [← hout]
  unfold Hd.cells at c2
  have hzz : (S (headNew ((L s).take (ipOwn (L s)).toNat) a c)).size + (S (loadNew (seenOf s) (L (ipRest s)) (((L s).drop 12).take 8) a b c d)).size ≤ 1000000 := by rw [S_size, S_size]; omega
  have hb0 := at_bd (L s) 0
  have e0 : (((s[0]'(by omega)).toNat : Nat) : Int) = at_ (L s) 0 := by rw [getElem_L s 0 (by omega)]; rfl
  have how : ipOwn (L s) = at_ (L s) 0 % 16 * 4 := rfl
  have hoz : at_ (L s) 0 % 16 * 4 ≤ (s.size : Int) := by omega
  have h20 : 20 ≤ s.size := by omega
  have f4 := fun k kk hk h20 W => rn_Ports a b c d (ipRest s) (s.extract 12 20) k kk W hk ha hb hc hd (by omega) h20 h12
  rw [hL12] at f4
  have f5 := fun W => rn_query (ipRest s) b W (by omega) h8 hb
  have f6 := fun W => rn_query (ipRest s) d W (by omega) h8 hd
  generalize seenOf s = x at *
  obtain ⟨⟨x0, x1, x2, x3, x4⟩, x5, x6, x7, x8⟩ := x
  unfold Seen.cells at c1
  simp only at h2 hpp c1 hzz ⊢
  unfold loadNew at hzz ⊢
  simp only at hzz ⊢
  by_cases p6 : x0 = 6
  · rw [if_pos p6] at hzz ⊢
    exact rn_Apply_tcp a b c d _ _ _ _ _ _ _ _ _ _ _ _ _ _ _ _ _ _ _ s _ _ h2 hs h20 hb0 e0 hoz hzz p6 w c1 c2 c3 (fun W => f4 16 16 (Or.inl ⟨rfl, rfl⟩) (by have := hpp p6; omega) W)
  rw [if_neg p6] at hzz ⊢
  by_cases p17 : x0 = 17
  · rw [if_pos p17] at hzz ⊢
    exact rn_Apply_udp a b c d _ _ _ _ _ _ _ _ _ _ _ _ _ _ _ _ _ _ _ s _ _ h2 hs h20 hb0 e0 hoz hzz p17 w c1 c2 c3 (fun W => f4 6 6 (Or.inr ⟨rfl, rfl⟩) (by omega) W)
  rw [if_neg p17] at hzz ⊢
  by_cases k3 : x5 = 3
  · rw [if_pos k3] at hzz ⊢
    exact rn_Apply_err a b c d _ _ _ _ _ _ _ _ _ _ _ _ _ _ _ _ _ _ _ s _ _ h2 hs h20 hb0 e0 hoz hzz ⟨p6, p17⟩ k3 (by rw [S_L]) w c1 c2 c3
  rw [if_neg k3] at hzz ⊢
  by_cases q7 : x7 = true
  · rw [if_pos q7] at hzz ⊢
    exact rn_Apply_ask a b c d _ _ _ _ _ _ _ _ _ _ _ _ _ _ _ _ _ _ _ s _ _ h2 hs h20 hb0 e0 hoz hzz ⟨p6, p17⟩ k3 q7 w c1 c2 c3 f5
  · rw [if_neg q7] at hzz ⊢
    exact rn_Apply_told a b c d _ _ _ _ _ _ _ _ _ _ _ _ _ _ _ _ _ _ _ s _ _ h2 hs h20 hb0 e0 hoz hzz ⟨p6, p17⟩ k3 (by simpa using q7) w c1 c2 c3 f6
end Go.Proofs.YtilfcikhipadpaaGreatDoor
end

section
/- porterref10.Look, whole; message, Inner: the document. -/
set_option linter.unusedVariables false
set_option linter.unusedSimpArgs false
namespace Go.Proofs.YtilfcikhipadpaaGreatDoor
open Go.RowKit Go.Lib Rx

/-- why there is no message about another packet -/
def msWhy (s : ByteArray) : Int := if seenWhy s ≠ 0 then seenWhy s else if (seenOf s).k ≠ 3 then 15 else 0
def msOf (s : ByteArray) : Msg := if msWhy s = 0 then msgOf (ipRest s) else ⟨0, 0, 0, { data := #[] }, { data := #[] }⟩
set_option maxRecDepth 100000 in
set_option maxHeartbeats 8000000 in
theorem rd_message (s : ByteArray) (w : World) (hs : s.size ≤ 140737488351232) :
    Calls Tryz.prog 88 #[.string s] w (Ret (.tuple #[.agg #[.int .u8 (msOf s).t, .int .u8 (msOf s).c, .int .u16 (msOf s).n, .string (msOf s).r, .string (msOf s).d], .int .i64 (msWhy s)]) w) := by
  obtain ⟨x, hx⟩ : ∃ x, x = seenOf s := ⟨_, rfl⟩
  have co := fun W => o_Of s W hs
  rw [← hx] at co
  unfold Seen.cells at co
  by_cases h1 : seenWhy s = 0
  rotate_left 1
  · have e1 : msWhy s = seenWhy s := by unfold msWhy; rw [if_pos h1]
    have e2 : msOf s = ⟨0, 0, 0, { data := #[] }, { data := #[] }⟩ := by unfold msOf; rw [e1, if_neg h1]
    rw [e1, e2]
    have hr : (seenWhy s != 0) = true := by simpa using h1
    exact run (args := [.string s]) [does 3 (args := [.string s]) (fun W _ => co W), yes 12 hr]
  by_cases h2 : (seenOf s).k = 3
  rotate_left 1
  · have e1 : msWhy s = 15 := by unfold msWhy; rw [if_neg (by omega), if_pos h2]
    have e2 : msOf s = ⟨0, 0, 0, { data := #[] }, { data := #[] }⟩ := by unfold msOf; rw [e1, if_neg (by decide)]
    rw [e1, e2]
    rw [← hx] at h2
    have hr : (x.k != 3) = true := by simpa using h2
    rw [h1] at co
    exact run (args := [.string s]) [does 3 (args := [.string s]) (fun W _ => co W), yes 16 hr]
  obtain ⟨H, P, R, hsw, hw, _, _, _, hrest, _, hp8, _, _⟩ := err_whole h1 h2
  have hsz : (ipRest s).size ≤ 2048 := by rw [hrest, S_size]; have := hw.big; omega
  have h8 : 8 ≤ (ipRest s).size := by rw [hrest, S_size]; exact hp8
  have e1 : msWhy s = 0 := by unfold msWhy; rw [if_neg (by omega), if_neg (by omega)]
  have e2 : msOf s = msgOf (ipRest s) := by unfold msOf; rw [if_pos e1]
  rw [e1, e2]
  have cp := fun W => r4_Parse s W hs
  have cm := fun W => r7_Parse_yes (ipRest s) W (by omega) h8
  rw [← hx] at h2
  have hr : (x.k != 3) = false := by rw [h2]; rfl
  rw [h1] at co
  obtain ⟨h, hh⟩ : ∃ h, h = hdRes s := ⟨_, rfl⟩
  rw [← hh] at cp
  unfold Hd.cells at cp
  exact run (args := [.string s]) [does 3 (args := [.string s]) (fun W _ => co W), no 16 hr, does 18 (args := [.string s]) (fun W _ => cp W), does 28 (args := [.string (ipRest s)]) (fun W _ => cm W)]
end Go.Proofs.YtilfcikhipadpaaGreatDoor
end
