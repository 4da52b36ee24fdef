/- Several texts of this claim, one behind the other. -/
import Derived.Test.YtilfcikhipadpaaGreatDoorK39b

section
/- porterref10.carried: the document. -/
set_option linter.unusedVariables false
set_option linter.unusedSimpArgs false
namespace Go.Proofs.YtilfcikhipadpaaGreatDoor
open Go.RowKit Go.Lib Rx

set_option maxRecDepth 100000 in
set_option maxHeartbeats 16000000 in
theorem rd_carried (l ips : ByteArray) (E R : Int) (t : Tup) (q : Bool) (a b c d : Int) (w : World) (ha : 0 ≤ a ∧ a ≤ 4294967295) (hb : 0 ≤ b ∧ b ≤ 65535) (hc : 0 ≤ c ∧ c ≤ 4294967295) (hd : 0 ≤ d ∧ d ≤ 65535) (hl : l.size ≤ 1000000) (h8 : 8 ≤ l.size) (hi : ips.size = 8) :
    Calls Tryz.prog 173 #[.string l, .string ips, .agg #[.int .i64 E, .int .u8 t.p, .int .u32 t.a, .int .u16 t.b, .int .u32 t.c, .int .u16 t.d, .bool q, .int .i64 R], .agg #[.int .u32 a, .int .u16 b, .int .u32 c, .int .u16 d]] w (Ret (.string (S (crOf (L l) (L ips) t.p q a b c d))) w) := by
  obtain ⟨p, ta, tb, tc, td⟩ := t
  simp only
  have hL := L_length l
  have c6 := fun W => rn_Ports a b c d l ips 6 6 W (Or.inr ⟨rfl, rfl⟩) ha hb hc hd hl (by omega) hi
  have c16 := fun (h : 18 ≤ l.size) W => rn_Ports a b c d l ips 16 16 W (Or.inl ⟨rfl, rfl⟩) ha hb hc hd hl (by omega) hi
  have cW := fun W => rn_With l 0 (S (putW [b, d])) W (by omega) (by rw [S_size, putW2_len]; omega)
  rw [L_S, S_size, putW2_len, List.take_zero, List.nil_append, Nat.zero_add, show ((0 : Nat) : Int) = 0 from rfl] at cW
  have cqb := fun W => rn_query l b W (by omega) h8 hb
  have cqd := fun W => rn_query l d W (by omega) h8 hd
  have r17 : p = 17 → crOf (L l) (L ips) p q a b c d = flowNew (L l) (L ips) a b c d 6 := fun h => by unfold crOf; rw [if_pos h]
  have r6 : p = 6 → 18 ≤ l.size → crOf (L l) (L ips) p q a b c d = flowNew (L l) (L ips) a b c d 16 := fun h h2 => by unfold crOf; rw [if_neg (by omega), if_pos ⟨h, by omega⟩]
  have r6n : p = 6 → ¬ 18 ≤ l.size → crOf (L l) (L ips) p q a b c d = putW [b, d] ++ (L l).drop 4 := fun h h2 => by unfold crOf; rw [if_neg (by omega), if_neg (fun k => by omega), if_pos h]
  have rq : p ≠ 17 → p ≠ 6 → crOf (L l) (L ips) p q a b c d = queryOf (L l) (if q = true then b else d) := fun h h2 => by unfold crOf; rw [if_neg h, if_neg (fun k => h2 k.1), if_neg h2]
  by_cases p17 : p = 17
  · rw [r17 p17]
    exact run (args := [.string l, .string ips, .agg #[.int .i64 E, .int .u8 p, .int .u32 ta, .int .u16 tb, .int .u32 tc, .int .u16 td, .bool q, .int .i64 R], .agg #[.int .u32 a, .int .u16 b, .int .u32 c, .int .u16 d]]) [yes 7 (b := p == 17) (by simpa using p17), does 11 (args := [.string l, .string ips, .agg #[.int .u32 a, .int .u16 b, .int .u32 c, .int .u16 d], .int .i64 6]) (fun W _ => c6 W)]
  have q17 : (p == 17) = false := by simpa using p17
  by_cases p6 : p = 6
  · have q6 : (p == 6) = true := by simpa using p6
    by_cases h18 : 18 ≤ l.size
    · rw [r6 p6 h18]
      exact run (args := [.string l, .string ips, .agg #[.int .i64 E, .int .u8 p, .int .u32 ta, .int .u16 tb, .int .u32 tc, .int .u16 td, .bool q, .int .i64 R], .agg #[.int .u32 a, .int .u16 b, .int .u32 c, .int .u16 d]]) [no 7 q17, isT 12 q6, yes 17 (b := decide ((l.size : Int) ≥ 18)) (by simp; omega), does 21 (args := [.string l, .string ips, .agg #[.int .u32 a, .int .u16 b, .int .u32 c, .int .u16 d], .int .i64 16]) (fun W _ => c16 h18 W)]
    · rw [r6n p6 h18]
      exact run (args := [.string l, .string ips, .agg #[.int .i64 E, .int .u8 p, .int .u32 ta, .int .u16 tb, .int .u32 tc, .int .u16 td, .bool q, .int .i64 R], .agg #[.int .u32 a, .int .u16 b, .int .u32 c, .int .u16 d]]) [no 7 q17, isT 12 q6, no 17 (b := decide ((l.size : Int) ≥ 18)) (by simp; omega), yes 22 q6, dworE 31 2 [b, d] (b2 hb hd), does 32 (args := [.string l, .int .i64 0, .string (S (putW [b, d]))]) (fun W _ => cW W)]
  have q6 : (p == 6) = false := by simpa using p6
  rw [rq p17 p6]
  cases q
  · exact run (args := [.string l, .string ips, .agg #[.int .i64 E, .int .u8 p, .int .u32 ta, .int .u16 tb, .int .u32 tc, .int .u16 td, .bool false, .int .i64 R], .agg #[.int .u32 a, .int .u16 b, .int .u32 c, .int .u16 d]]) [no 7 q17, isF 12 q6, no 22 q6, does 30 (args := [.string l, .int .u16 d]) (fun W _ => cqd W)]
  · exact run (args := [.string l, .string ips, .agg #[.int .i64 E, .int .u8 p, .int .u32 ta, .int .u16 tb, .int .u32 tc, .int .u16 td, .bool true, .int .i64 R], .agg #[.int .u32 a, .int .u16 b, .int .u32 c, .int .u16 d]]) [no 7 q17, isF 12 q6, no 22 q6, does 30 (args := [.string l, .int .u16 b]) (fun W _ => cqb W)]
end Go.Proofs.YtilfcikhipadpaaGreatDoor
end

section
/- porterref10.Data: the document. -/
set_option linter.unusedVariables false
set_option linter.unusedSimpArgs false
namespace Go.Proofs.YtilfcikhipadpaaGreatDoor
open Go.RowKit Go.Lib Rx

set_option maxRecDepth 100000 in
set_option maxHeartbeats 16000000 in
theorem rd_Data (s : ByteArray) (a b c d : Int) (w : World) (ha : 0 ≤ a ∧ a ≤ 4294967295) (hb : 0 ≤ b ∧ b ≤ 65535) (hc : 0 ≤ c ∧ c ≤ 4294967295) (hd : 0 ≤ d ∧ d ≤ 65535) (hs : s.size ≤ 1000000) (hem : emWhy (L s) = 0) :
    Calls Tryz.prog 115 #[.string s, .agg #[.int .u32 a, .int .u16 b, .int .u32 c, .int .u16 d]] w (Ret (.string (S (dtOf (L s) a b c d))) w) := by
  have hL := L_length s
  obtain ⟨p1, p2, p3, _, _, _⟩ := emWhy_parts hem
  have he : emEnd (L s) = ((emAt (L s) : Nat) : Int) := by unfold emAt; have := at_bd (L s) 0; unfold emEnd; omega
  have cl := fun W => rd_Look s W (by omega)
  unfold lkOf at cl
  rw [if_pos hem, he] at cl
  have hx := be16_bd (L s) 10
  have cwd := fun W => rn_Word s 10 W (by omega) (by omega)
  rw [show ((10 : Nat) : Int) = 10 from rfl] at cwd
  obtain ⟨n, hn⟩ : ∃ n, n = dtSum (L s) a c := ⟨_, rfl⟩
  have hnb : 0 ≤ n ∧ n ≤ 65535 := by rw [hn]; exact updates_bd hx
  obtain ⟨h1, hh1⟩ : ∃ h1, h1 = dtHd (L s) a c := ⟨_, rfl⟩
  obtain ⟨cr, hcr⟩ : ∃ cr, cr = crOf ((L s).drop (emAt (L s))) (((L s).drop 12).take 8) (emTup (L s)).p (emAsk (L s)) a b c d := ⟨_, rfl⟩
  have hcrl : cr.length = s.size - emAt (L s) := by rw [hcr, crOf_len (by rw [List.length_drop]; omega), List.length_drop, hL]
  have hLk : L (s.extract 0 (emAt (L s))) = (L s).take (emAt (L s)) := by rw [L_extract, List.drop_zero, Nat.sub_zero]
  have hLi : L (s.extract 12 20) = ((L s).drop 12).take 8 := L_extract s 12 20
  have hLr : L (s.extract (emAt (L s)) s.size) = (L s).drop (emAt (L s)) := L_from s _
  have hzk : (s.extract 0 (emAt (L s))).size = emAt (L s) := by simp; omega
  have hzi : (s.extract 12 20).size = 8 := by simp; omega
  have hzr : (s.extract (emAt (L s)) s.size).size = s.size - emAt (L s) := by simp
  have hh1l : h1.length = emAt (L s) := by rw [hh1]; unfold dtHd; simp only [List.length_append, List.length_take, List.length_drop, ipsOf_len]; omega
  have cp := fun W => rn_Pair a b c d W ha hc
  have cw1 := fun W => rn_With (s.extract 0 (emAt (L s))) 12 (S (ipsOf a c)) W (by omega) (by rw [S_size, ipsOf_len]; omega)
  rw [hLk, L_S, S_size, ipsOf_len, show ((L s).take (emAt (L s))).take 12 ++ (ipsOf a c ++ ((L s).take (emAt (L s))).drop (12 + 8)) = h1 from by rw [hh1]; rfl, show ((12 : Nat) : Int) = 12 from rfl] at cw1
  have cu := fun W => r_Updates (be16 (L s) 10) (s.extract 12 20) ((S h1).extract 12 20) W hx (by omega) (by simp; omega)
  rw [hLi, L_extract, L_S, show updates (be16 (L s) 10) (((L s).drop 12).take 8) ((h1.drop 12).take (20 - 12)) = n from by rw [hn, hh1]; rfl] at cu
  have cpn := fun W => r_Put16 n W hnb.1 hnb.2
  have cw2 := fun W => rn_With (S h1) 10 (S (put16 n)) W (by rw [S_size]; omega) (by rw [S_size, S_size, put16_length]; omega)
  rw [L_S, L_S, S_size, put16_length, show ((10 : Nat) : Int) = 10 from rfl] at cw2
  obtain ⟨h2, hh2⟩ : ∃ h2, h2 = h1.take 10 ++ (put16 n ++ h1.drop (10 + 2)) := ⟨_, rfl⟩
  rw [← hh2] at cw2
  have hh2l : h2.length = emAt (L s) := by rw [hh2]; simp only [List.length_append, List.length_take, List.length_drop, put16_length]; omega
  have ccr := fun W => rd_carried (s.extract (emAt (L s)) s.size) (s.extract 12 20) ((emAt (L s) : Nat) : Int) 0 (emTup (L s)) (emAsk (L s)) a b c d W ha hb hc hd (by omega) (by omega) hzi
  rw [hLr, hLi, ← hcr] at ccr
  have RES : S (dtOf (L s) a b c d) = S h2 ++ S cr := by rw [S_append, hh2, hh1, hn, hcr]; rfl
  rw [RES]
  have kz : ((emAt (L s) : Nat) : Int).toNat = emAt (L s) := Int.toNat_natCast _
  have g1 : (S h1).size = emAt (L s) := by rw [S_size]; exact hh1l
  have g2 : (S h2).size = emAt (L s) := by rw [S_size]; exact hh2l
  have g3 : (S cr).size = s.size - emAt (L s) := by rw [S_size]; exact hcrl
  exact run (args := [.string s, .agg #[.int .u32 a, .int .u16 b, .int .u32 c, .int .u16 d]]) [does 3 (args := [.string s]) (fun W _ => cl W), sH 9 9 .i64 s ((emAt (L s) : Nat) : Int), does 11 (args := [.agg #[.int .u32 a, .int .u16 b, .int .u32 c, .int .u16 d]]) (fun W _ => cp W), does 12 (args := [.string (s.extract 0 (emAt (L s))), .int .i64 12, .string (S (ipsOf a c))]) (fun W _ => cw1 W), does 15 (args := [.string s, .int .i64 10]) (fun W _ => cwd W), sLH 17 9 .i64 .i64 s 12 20, sLH 19 9 .i64 .i64 (S h1) 12 20, does 20 (args := [.int .u16 (be16 (L s) 10), .string (s.extract 12 20), .string ((S h1).extract 12 20)]) (fun W _ => cu W), does 24 (args := [.int .u16 n]) (fun W _ => cpn W), does 25 (args := [.string (S h1), .int .i64 10, .string (S (put16 n))]) (fun W _ => cw2 W), sL 31 9 .i64 s ((emAt (L s) : Nat) : Int), sLH 33 9 .i64 .i64 s 12 20, does 36 (args := [.string (s.extract (emAt (L s)) s.size), .string (s.extract 12 20), .agg #[.int .i64 ((emAt (L s) : Nat) : Int), .int .u8 (emTup (L s)).p, .int .u32 (emTup (L s)).a, .int .u16 (emTup (L s)).b, .int .u32 (emTup (L s)).c, .int .u16 (emTup (L s)).d, .bool (emAsk (L s)), .int .i64 0], .agg #[.int .u32 a, .int .u16 b, .int .u32 c, .int .u16 d]]) (fun W _ => ccr W), cat 37 9 (S h2) (S cr)]
end Go.Proofs.YtilfcikhipadpaaGreatDoor
end

section
/- porterref10.Translate: the document. -/
set_option linter.unusedVariables false
set_option linter.unusedSimpArgs false
namespace Go.Proofs.YtilfcikhipadpaaGreatDoor
open Go.RowKit Go.Lib Rx

theorem tr_app {r nw : List UInt8} {k : Nat} {n : Int} (h : k + 8 ≤ r.length) : (lay r (k + 2) n).take (k + 8) ++ nw = lay (r.take (k + 8) ++ nw) (k + 2) n := by
  have hA : (r.take (k + 8)).length = k + 8 := by rw [List.length_take]; omega
  have h1 : lay r (k + 2) n = lay (r.take (k + 8)) (k + 2) n ++ r.drop (k + 8) := by
    conv => lhs; rw [← List.take_append_drop (k + 8) r]
    exact lay_app (by omega)
  have hB : (lay (r.take (k + 8)) (k + 2) n).length = k + 8 := by rw [lay_length (by omega), hA]
  rw [h1, List.take_append_of_le_length (by omega), List.take_of_length_le (by omega)]
  exact (lay_app (by omega)).symm
set_option maxRecDepth 100000 in
set_option maxHeartbeats 16000000 in
theorem rd_Translate (oa ob oc od a b c d : Int) (s : ByteArray) (w : World) (hoa : 0 ≤ oa ∧ oa ≤ 4294967295) (hob : 0 ≤ ob ∧ ob ≤ 65535) (hoc : 0 ≤ oc ∧ oc ≤ 4294967295) (hod : 0 ≤ od ∧ od ≤ 65535) (ha : 0 ≤ a ∧ a ≤ 4294967295) (hb : 0 ≤ b ∧ b ≤ 65535) (hc : 0 ≤ c ∧ c ≤ 4294967295) (hd : 0 ≤ d ∧ d ≤ 65535) (hs : s.size ≤ 140737488351232) :
    Calls Tryz.prog 71 #[.string s, .agg #[.int .u32 oa, .int .u16 ob, .int .u32 oc, .int .u16 od], .agg #[.int .u32 a, .int .u16 b, .int .u32 c, .int .u16 d]] w (Ret (.tuple #[.string (trOut s oa ob oc od a b c d), .int .i64 (trWhy s)]) w) := by
  have ci := fun W => rd_Inner s W hs
  have cr := fun W => rn_Apply oa ob oc od s W hoa hob hoc hod hs
  by_cases h : emsWhy s = 0
  rotate_left 1
  · have e1 : trWhy s = emsWhy s := by unfold trWhy; rw [if_pos h]
    have e2 : trOut s oa ob oc od a b c d = { data := #[] } := by unfold trOut; rw [e1, if_neg h]
    rw [e1, e2]
    have hr : (emsWhy s != 0) = true := by simpa using h
    exact run (args := [.string s, .agg #[.int .u32 oa, .int .u16 ob, .int .u32 oc, .int .u16 od], .agg #[.int .u32 a, .int .u16 b, .int .u32 c, .int .u16 d]]) [does 5 (args := [.string s]) (fun W _ => ci W), yes 14 hr]
  rw [h] at ci
  by_cases hw : rwWhy s = 0
  rotate_left 1
  · have e1 : trWhy s = rwWhy s := by unfold trWhy; rw [if_neg (by omega)]
    have e2 : trOut s oa ob oc od a b c d = { data := #[] } := by unfold trOut; rw [e1, if_neg hw]
    rw [e1, e2]
    have hr : (rwWhy s != 0) = true := by simpa using hw
    exact run (args := [.string s, .agg #[.int .u32 oa, .int .u16 ob, .int .u32 oc, .int .u16 od], .agg #[.int .u32 a, .int .u16 b, .int .u32 c, .int .u16 d]]) [does 5 (args := [.string s]) (fun W _ => ci W), does 17 (args := [.string s, .agg #[.int .u32 oa, .int .u16 ob, .int .u32 oc, .int .u16 od]]) (fun W _ => cr W), yes 25 hr]
  rw [hw] at cr
  have e1 : trWhy s = 0 := by unfold trWhy; rw [if_neg (by omega)]; exact hw
  obtain ⟨k, hk1, hk2, hk3, hk4, hk5, hk6⟩ := tr_size (a := oa) (b := ob) (c := oc) (d := od) e1 hoa hob hoc hod
  obtain ⟨hsw, hk0, hem⟩ := ems_seen h
  have hms : msWhy s = 0 := by unfold msWhy; rw [if_neg (by omega), if_neg (by omega)]
  have hdl : (L (emData s)).length = (emData s).size := L_length _
  have hnl := emNew_len hem a b c d
  have cd := fun W => rd_Data (emData s) a b c d W ha hb hc hd (by omega) hem
  rw [dtOf_em hem] at cd
  have cm := fun W => rd_message s W hs
  rw [show msOf s = msgOf (ipRest s) from by unfold msOf; rw [if_pos hms], show (msgOf (ipRest s)).d = emData s from rfl, hms] at cm
  obtain ⟨m, hm⟩ : ∃ m, m = msgOf (ipRest s) := ⟨_, rfl⟩
  have hmn : 0 ≤ m.n ∧ m.n ≤ 65535 := by rw [hm]; exact be16_bd _ _
  obtain ⟨nw, hnw⟩ : ∃ nw, nw = emNew (L (emData s)) a b c d := ⟨_, rfl⟩
  obtain ⟨ro, hro⟩ : ∃ ro, ro = rwOut s oa ob oc od := ⟨_, rfl⟩
  obtain ⟨ev, hev⟩ : ∃ ev : Nat, ev = (emData s).size / 2 * 2 := ⟨_, rfl⟩
  obtain ⟨sm, hsm⟩ : ∃ sm, sm = emSum s a b c d := ⟨_, rfl⟩
  rw [← hnw] at hnl cd
  have hsm2 : sm = updates m.n (L ((emData s).extract 0 ev)) (L ((S nw).extract 0 ev)) := by
    rw [hsm, L_extract, L_extract, L_S, List.drop_zero, List.drop_zero, Nat.sub_zero]
    unfold emSum emEven
    rw [← hnw, ← hm, hdl, ← hev]
  have hsb : 0 ≤ sm ∧ sm ≤ 65535 := by rw [hsm2]; exact updates_bd hmn
  rw [← hro] at hk4 hk5 cr
  have hrl : (L ro).length = ro.size := L_length _
  obtain ⟨tx, htx⟩ : ∃ tx, tx = trOut s oa ob oc od a b c d := ⟨_, rfl⟩
  have htx2 : tx = S ((lay (L ro) (k + 2) sm).take (k + 8) ++ nw) := by
    rw [htx, tr_app (by omega)]
    unfold trOut trNew
    rw [if_pos e1, ← hro, ← hnw, ← hsm, show ro.size - (emData s).size = k + 8 from by omega]
    rfl
  rw [e1, ← htx]
  rw [← hm] at cm
  have cu := fun W => r_Updates m.n ((emData s).extract 0 ev) ((S nw).extract 0 ev) W hmn (by simp; omega) (by simp [S_size]; omega)
  rw [← hsm2] at cu
  have cp := fun W => r_Put16 sm W hsb.1 hsb.2
  have hll : (lay (L ro) (k + 2) sm).length = ro.size := by rw [lay_length (by omega), hrl]
  have cw1 := fun W => rn_With ro (k + 2) (S (put16 sm)) W (by omega) (by rw [S_size, put16_length]; omega)
  rw [L_S, S_size, put16_length, show (L ro).take (k + 2) ++ (put16 sm ++ (L ro).drop (k + 2 + 2)) = lay (L ro) (k + 2) sm from by unfold lay; rw [List.append_assoc]] at cw1
  have cw2 := fun W => rn_With (S (lay (L ro) (k + 2) sm)) (k + 8) (S nw) W (by rw [S_size, hll]; omega) (by rw [S_size, S_size, hnl, hll]; omega)
  rw [L_S, L_S, S_size, hnl, List.drop_eq_nil_of_le (by omega), List.append_nil, ← htx2] at cw2
  have hz1 : (S nw).size = (emData s).size := by rw [S_size, hnl]; exact hdl
  have hx := at_bd (L s) 0
  have ew : IntKind.i64.wrap (IntKind.i64.wrap ((at_ (L s) 0).tmod 16) * 4) = (k : Int) := by rw [Int.tmod_eq_emod_of_nonneg hx.1, wrap64_id (x := at_ (L s) 0 % 16) (by omega), wrap64_id (by omega), hk1]
  have ev1 : IntKind.i64.wrap (IntKind.i64.wrap (((S nw).size : Int).tdiv 2) * 2) = (ev : Int) := by rw [Int.tdiv_eq_ediv_of_nonneg (by omega), wrap64_id (x := ((S nw).size : Int) / 2) (by omega), wrap64_id (by omega)]; omega
  have e2 : IntKind.i64.wrap (IntKind.i64.wrap (IntKind.i64.wrap ((at_ (L s) 0).tmod 16) * 4) + 2) = ((k + 2 : Nat) : Int) := by rw [ew, wrap64_id (by omega)]; rfl
  have e8 : IntKind.i64.wrap (IntKind.i64.wrap (IntKind.i64.wrap ((at_ (L s) 0).tmod 16) * 4) + 8) = ((k + 8 : Nat) : Int) := by rw [ew, wrap64_id (by omega)]; rfl
  have ez : (IntKind.i64.wrap (IntKind.i64.wrap (((S nw).size : Int).tdiv 2) * 2)).toNat = ev := by rw [ev1]; rfl
  rw [← e2] at cw1
  rw [← e8] at cw2
  rw [← ez] at cu
  exact run (args := [.string s, .agg #[.int .u32 oa, .int .u16 ob, .int .u32 oc, .int .u16 od], .agg #[.int .u32 a, .int .u16 b, .int .u32 c, .int .u16 d]]) [does 5 (args := [.string s]) (fun W _ => ci W), does 17 (args := [.string s, .agg #[.int .u32 oa, .int .u16 ob, .int .u32 oc, .int .u16 od]]) (fun W _ => cr W), does 27 (args := [.string s]) (fun W _ => cm W), does 37 (args := [.string (emData s), .agg #[.int .u32 a, .int .u16 b, .int .u32 c, .int .u16 d]]) (fun W _ => cd W), sH 49 9 .i64 (emData s) (IntKind.i64.wrap (IntKind.i64.wrap (((S nw).size : Int).tdiv 2) * 2)), sH 52 9 .i64 (S nw) (IntKind.i64.wrap (IntKind.i64.wrap (((S nw).size : Int).tdiv 2) * 2)), does 53 (args := [.int .u16 m.n, .string ((emData s).extract 0 (IntKind.i64.wrap (IntKind.i64.wrap (((S nw).size : Int).tdiv 2) * 2)).toNat), .string ((S nw).extract 0 (IntKind.i64.wrap (IntKind.i64.wrap (((S nw).size : Int).tdiv 2) * 2)).toNat)]) (fun W _ => cu W), sx 56 9 .i64 s 0, does 65 (args := [.int .u16 sm]) (fun W _ => cp W), does 66 (args := [.string ro, .int .i64 (IntKind.i64.wrap (IntKind.i64.wrap (IntKind.i64.wrap ((at_ (L s) 0).tmod 16) * 4) + 2)), .string (S (put16 sm))]) (fun W _ => cw1 W), does 70 (args := [.string (S (lay (L ro) (k + 2) sm)), .int .i64 (IntKind.i64.wrap (IntKind.i64.wrap (IntKind.i64.wrap ((at_ (L s) 0).tmod 16) * 4) + 8)), .string (S nw)]) (fun W _ => cw2 W)]
end Go.Proofs.YtilfcikhipadpaaGreatDoor
end

section
/- What is sent, of any packet: both. -/
set_option linter.unusedVariables false
set_option linter.unusedSimpArgs false
namespace Go.Proofs.YtilfcikhipadpaaGreatDoor
open Go.RowKit Go.Lib Rx
theorem r4_0 : R4 0 0 0 0 := ⟨by decide, by decide, by decide, by decide⟩
theorem loadSeen_r4 {h : Hd} {l : ByteArray} (hs : 0 ≤ h.s ∧ h.s ≤ 4294967295) (hd : 0 ≤ h.d ∧ h.d ≤ 4294967295) : R4 (loadSeen h l).t.a (loadSeen h l).t.b (loadSeen h l).t.c (loadSeen h l).t.d := by
  have z : (0 : Int) ≤ 0 ∧ (0 : Int) ≤ 65535 := by decide
  have g := fun k : Int => get16_bd (L l) k
  have g2 := fun k : Int => get16_bd (L (msgOf l).r) k
  unfold loadSeen segOf R4
  generalize qAsk (msgOf l) = b1
  generalize qIs (msgOf l) = b2
  by_cases h1 : h.p = 6
  · simp only [if_pos h1]; exact ⟨hs, g 0, hd, g 2⟩
  by_cases h2 : h.p = 17
  · simp only [if_neg h1, if_pos h2]; exact ⟨hs, g 0, hd, g 2⟩
  cases b1
  · cases b2
    · simp only [if_neg h1, if_neg h2]; exact ⟨hs, z, hd, z⟩
    · simp only [if_neg h1, if_neg h2]; exact ⟨hs, z, hd, g2 0⟩
  · simp only [if_neg h1, if_neg h2]; exact ⟨hs, g2 0, hd, z⟩
theorem seenOf_r4 (s : ByteArray) : R4 (seenOf s).t.a (seenOf s).t.b (seenOf s).t.c (seenOf s).t.d := by
  unfold seenOf
  split
  · exact loadSeen_r4 (get32_bd _ _) (get32_bd _ _)
  · exact r4_0
theorem inTup_r4 (s : ByteArray) : R4 (inTup s).a (inTup s).b (inTup s).c (inTup s).d := by
  unfold inTup
  split
  · exact (emTup_ok _).2
  · exact r4_0
/-- what is seen, and the key -/
theorem see_is (s : ByteArray) : ∃ x t e, seeV (seenOf s) (seenWhy s) (inTup s) (emsWhy s) = glanceV x t e ∧ (0 ≤ x.t.a ∧ x.t.a ≤ 4294967295) ∧ R4 t.a t.b t.c t.d := by
  have h := seenOf_r4 s
  have k := inTup_r4 s
  unfold seeV
  repeat' split
  all_goals first | exact ⟨_, _, _, rfl, by decide, r4_0⟩ | exact ⟨_, _, _, rfl, h.1, h⟩ | exact ⟨_, _, _, rfl, h.1, k.2.2.1, k.2.2.2, k.1, k.2.1⟩
/-- what is sent -/
@[reducible] def sndV (s : ByteArray) (x : Seen) (y : Tup) (e : Int) (O R : Tup) : Value := sdV (rwOut s) (trOut s) (hasP 167772160 8) x.t.a x.k y.p y.a y.b y.c y.d e O.p O.a O.b O.c O.d R.p R.a R.b R.c R.d (rwWhy s) (trWhy s)
theorem snd_val (s : ByteArray) (x : Seen) (y : Tup) (e : Int) (O R : Tup) : ∃ (S : ByteArray) (r : Int), sndV s x y e O R = .tuple #[.string S, .int .i64 r] := by
  unfold sndV sdV
  simp only [Bool.cond_eq_ite]
  repeat' split
  all_goals exact ⟨_, _, rfl⟩
@[reducible] def enT (O R : Tup) (st dl : Int) (v : Value) : Value := enV O.p O.a O.b O.c O.d R.p R.a R.b R.c R.d st dl v
def TR (t : Tup) : Prop := R4 t.a t.b t.c t.d
variable {A : Amb} {rs : List Rule} {M E : List (Nat × Blk)} {s : ByteArray} {x : Seen} {y : Tup} {e : Int}
theorem snd_b (hK : ∀ W, A.S W → Kinds W) (hT : IsTab 151587081 167772160 8 rs M) {X : Option Addr} (n c : Nat) (hX : RealA X) (hs : s.size ≤ 140737488351232) (he : seeV (seenOf s) (seenWhy s) (inTup s) (emsWhy s) = glanceV x y e) (hx : 0 ≤ x.t.a ∧ x.t.a ≤ 4294967295) {O R : Tup} (hO : TR O) (hR : TR R) (st dl : Int) :
    CallJ Tryz.prog A 22 [ptr 0, .string s, enT O R st dl (.slice X n c)] M 2 (sndV s x y e O R) M 2 := by
  have c1 := fun W h => b_See s W (hK W h) hs
  rw [he] at c1
  have z : (0 : Int) ≤ 0 ∧ (0 : Int) ≤ 65535 := by decide
  exact b_sd hT n c hX s (rwOut s) (trOut s) (hasP 167772160 8) _ _ _ _ _ _ _ _ _ _ _ _ _ _ _ _ _ _ (rwWhy s) (trWhy s) _ _ _ _ _ _ st dl _ hx hO hR c1 (fun n h => inner_u hT (by decide) _ hx n h)
    (fun r W h => rw_Apply _ _ _ _ s W (hK W h) r.2.2.1 r.2.2.2 r.1 r.2.1 hs) (fun hz r W h => e_Translate _ 0 _ 0 _ _ _ _ s W (hK W h) hz z r.1 z r.1 r.2.1 r.2.2.1 r.2.2.2 hs)
theorem snd_d {hs' : List Hol} {HV : Value} (hH : DocAt 151587081 167772160 8 rs hs' M E HV) (hs : s.size ≤ 140737488351232) (he : seeV (seenOf s) (seenWhy s) (inTup s) (emsWhy s) = glanceV x y e) (hx : 0 ≤ x.t.a ∧ x.t.a ≤ 4294967295) {O R : Tup} (hO : TR O) (hR : TR R) (st dl : Int) :
    CallJ Tryz.prog A 23 [ptr 0, .string s, enT O R st dl HV] (M ++ E) 3 (sndV s x y e O R) (M ++ E) 3 := by
  have c1 := fun W (_ : A.S W) => d_See s W hs
  rw [he] at c1
  have z : (0 : Int) ≤ 0 ∧ (0 : Int) ≤ 65535 := by decide
  have hT : (∃ rs', IsDoc 151587081 167772160 8 rs' M) := by
    rcases hH with ⟨_, _, h⟩ | ⟨_, _, h⟩ | ⟨_, _, h⟩
    · exact ⟨_, h⟩
    · exact ⟨[], .inl ⟨rfl, h⟩⟩
    · exact ⟨rs, .inr h⟩
  obtain ⟨rs', hT⟩ := hT
  exact d_sd hH s (rwOut s) (trOut s) (hasP 167772160 8) _ _ _ _ _ _ _ _ _ _ _ _ _ _ _ _ _ _ (rwWhy s) (trWhy s) _ _ _ _ _ _ st dl _ hx hO hR c1 (fun n h => dinner_u hT (by decide) _ hx n h)
    (fun r W _ => rn_Apply _ _ _ _ s W r.2.2.1 r.2.2.2 r.1 r.2.1 hs) (fun hz r W _ => rd_Translate _ 0 _ 0 _ _ _ _ s W hz z r.1 z r.1 r.2.1 r.2.2.1 r.2.2.2 hs)
end Go.Proofs.YtilfcikhipadpaaGreatDoor
end
