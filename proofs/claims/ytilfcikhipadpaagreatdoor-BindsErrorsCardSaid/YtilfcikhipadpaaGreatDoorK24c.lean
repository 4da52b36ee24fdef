/- Several texts of this claim, one behind the other. -/
import Derived.Test.YtilfcikhipadpaaGreatDoorK23c
import Derived.Laws.IdiomCopy
import Derived.Deep.MidRow

section
/- rewrite: both addresses' bytes, a query with another ID, over this program. -/
set_option linter.unusedVariables false
set_option linter.unusedSimpArgs false
namespace Go.Proofs.YtilfcikhipadpaaGreatDoor
open Go.RowKit
attribute [local go_sem] Oper.semAt_some

/-- the bytes of both addresses -/
def ipsOf (a c : Int) : List UInt8 := put32 a ++ put32 c
set_option maxRecDepth 100000 in
set_option maxHeartbeats 2000000 in
theorem rw_ips (a b c d : Int) (w : World) (ha : 0 ≤ a ∧ a ≤ 4294967295) (hc : 0 ≤ c ∧ c ≤ 4294967295) :
    Calls Tryz.prog 156 #[.agg #[.int .u32 a, .int .u16 b, .int .u32 c, .int .u16 d]] w (Ret (.string (S (ipsOf a c))) w) := by
  have f1 := fun W => Put32 a W ha.1 ha.2
  have f2 := fun W => Put32 c W hc.1 hc.2
  have f3 := fun (W : World) (A : Option Addr) (hR : Row W W.heap.size A 2 [.string (S (put32 a)), .string (S (put32 c))]) => rw_laid A 2 2 [S (put32 a), S (put32 c)] W hR (by simp [allOf, L_S, put32, put16]) (by omega)
  rw [show S (allOf [S (put32 a), S (put32 c)]) = S (ipsOf a c) from by unfold allOf ipsOf; simp [L_S]] at f3
  obtain ⟨s1, h1⟩ : ∃ s, s = S (put32 a) := ⟨_, rfl⟩
  obtain ⟨s2, h2⟩ : ∃ s, s = S (put32 c) := ⟨_, rfl⟩
  obtain ⟨s3, h3⟩ : ∃ s, s = S (ipsOf a c) := ⟨_, rfl⟩
  rw [← h1] at f1 f3; rw [← h2] at f2 f3; rw [← h3] at f3 ⊢
  have F1 := hide f1; have F2 := hide f2; have F3 := hide f3
  clear f1 f2 f3 h1 h2 h3
  go_enter Tryz.func156, Tryz.ntmps156
  have d0 := Cells.new w #[.int .u32 a, .int .u16 b, .int .u32 c, .int .u16 d] 136
  go_wp2_with fail
  have SK := hide (fun (zX zY : World) (zh : (Below w.heap.size w zX ∧ zX.cell? ⟨w.heap.size, 0, none⟩ = some (.int .u32 a) ∧ zX.cell? ⟨w.heap.size, 2, none⟩ = some (.int .u32 c) ∧ True)) (zb : Below zX.heap.size zX zY) => (show (Below w.heap.size w zY ∧ zY.cell? ⟨w.heap.size, 0, none⟩ = some (.int .u32 a) ∧ zY.cell? ⟨w.heap.size, 2, none⟩ = some (.int .u32 c) ∧ True) from ⟨bstep zh.1 zb, cellAt zb zh.2.1, cellAt zb zh.2.2.1, trivial⟩))
  have FS := hide (fun (zX : World) (zh : (Below w.heap.size w zX ∧ zX.cell? ⟨w.heap.size, 0, none⟩ = some (.int .u32 a) ∧ zX.cell? ⟨w.heap.size, 2, none⟩ = some (.int .u32 c) ∧ True)) => zh.1)
  have GS := hide (fun (zX : World) (zh : (Below w.heap.size w zX ∧ zX.cell? ⟨w.heap.size, 0, none⟩ = some (.int .u32 a) ∧ zX.cell? ⟨w.heap.size, 2, none⟩ = some (.int .u32 c) ∧ True)) => zh)
  have hS0 : (Below w.heap.size w (w.alloc (.cells #[.int .u32 a, .int .u16 b, .int .u32 c, .int .u16 d] 136)) ∧ (w.alloc (.cells #[.int .u32 a, .int .u16 b, .int .u32 c, .int .u16 d] 136)).cell? ⟨w.heap.size, 0, none⟩ = some (.int .u32 a) ∧ (w.alloc (.cells #[.int .u32 a, .int .u16 b, .int .u32 c, .int .u16 d] 136)).cell? ⟨w.heap.size, 2, none⟩ = some (.int .u32 c) ∧ True) := ⟨(by (repeat' (first | with_reducible exact Below.refl _ _ | with_reducible refine Below.setCell ?_ (by first | exact Nat.le_refl _ | (dsimp only; omega)) _ | with_reducible refine bstep ?_ (fresh_below _ _) | with_reducible refine Below.drew ?_))), d0.at_ 0, d0.at_ 2, trivial⟩
  go_region_held_law (fun w' => (Below w.heap.size w w' ∧ w'.cell? ⟨w.heap.size, 0, none⟩ = some (.int .u32 a) ∧ w'.cell? ⟨w.heap.size, 2, none⟩ = some (.int .u32 c) ∧ True)) (first | assumption | exact SK.out _ _ hS0 (Below.refl _ _).drew | exact SK.out _ _ hS0 (fresh_below _ _).drew | exact SK.out _ _ (by assumption) (fresh_below _ _) | (refine SK.out _ _ ?_ (by assumption); assumption))
    (first | (go_at_call 196; (with_reducible refine (F1.out _).mono ?_); rintro e wq ⟨rfl, bq⟩) | (go_at_call 196; (with_reducible refine (F2.out _).mono ?_); rintro e wq ⟨rfl, bq⟩) | (go_at_call 154; (with_reducible refine (F3.out _ _ (by (repeat' (first | with_reducible refine Row.afterdraw ?_ | with_reducible exact Row.freshAt _ _ _ _ _ _ (by simp) rfl rfl | (with_reducible refine Row.rise ?_ (fresh_below _ _)) | (with_reducible refine Row.rise ?_ (by with_reducible assumption)))))).mono ?_); rintro e wq ⟨rfl, bq⟩))
  all_goals
    go_wp2
    go_ret
    exact ⟨rfl, (by first | exact FS.out _ (by assumption) | exact bstep (FS.out _ (by assumption)) (fresh_below _ _) | exact bstep (bstep (FS.out _ (by assumption)) (fresh_below _ _)) (fresh_below _ _))⟩

/-- a query's message, with another ID -/
def queryOf (l : List UInt8) (id : Int) : List UInt8 := lay (lay l 4 id) 2 (upd (be16 l 2) (be16 l 4) id)
set_option maxHeartbeats 1000000 in
theorem rw_query (s : ByteArray) (id : Int) (w : World) (hs : s.size ≤ 140737488351232) (h : 8 ≤ s.size) (hi : 0 ≤ id ∧ id ≤ 65535) :
    Calls Tryz.prog 159 #[.string s, .int .u16 id] w (Ret (.string (S (queryOf (L s) id))) w) := by
  have b2 := be16_bd (L s) 2
  have b4 := be16_bd (L s) 4
  have hu := upd_bd b2 b4 hi
  have hl : 8 ≤ (L s).length := by rw [L_length]; exact h
  have z1 : (S (lay (L s) 4 id)).size = s.size := by rw [S_size, lay_length (by omega), L_length]
  have c1 := fun w => rw_word s 2 w (reach_max hs) (by omega)
  have c2 := fun w => rw_word s 4 w (reach_max hs) (by omega)
  have c3 := fun w => Update (be16 (L s) 2) (be16 (L s) 4) id w b2 b4 hi
  have c4 := fun w => Put16 id w hi.1 hi.2
  have c5 := fun w => rw_patch s 4 (S (put16 id)) w hs (by rw [S_size, put16_length]; omega)
  have c6 := fun w => Put16 (upd (be16 (L s) 2) (be16 (L s) 4) id) w hu.1 hu.2
  have c7 := fun w => rw_patch (S (lay (L s) 4 id)) 2 (S (put16 (upd (be16 (L s) 2) (be16 (L s) 4) id))) w (by omega) (by rw [S_size (put16 _), put16_length]; omega)
  rw [show (L s).take 4 ++ (L (S (put16 id)) ++ (L s).drop (4 + (S (put16 id)).size)) = lay (L s) 4 id from by rw [← List.append_assoc]; rfl] at c5
  rw [show (L (S (lay (L s) 4 id))).take 2 ++ (L (S (put16 (upd (be16 (L s) 2) (be16 (L s) 4) id))) ++ (L (S (lay (L s) 4 id))).drop (2 + (S (put16 (upd (be16 (L s) 2) (be16 (L s) 4) id))).size)) = queryOf (L s) id from by rw [L_S, ← List.append_assoc]; rfl] at c7
  rw [show ((2 : Nat) : Int) = 2 from rfl] at c1 c7
  rw [show ((4 : Nat) : Int) = 4 from rfl] at c2 c5
  obtain ⟨x, hx⟩ : ∃ x, x = be16 (L s) 2 := ⟨_, rfl⟩
  obtain ⟨y, hy⟩ : ∃ y, y = be16 (L s) 4 := ⟨_, rfl⟩
  rw [← hx] at c1 c3 c6 c7; rw [← hy] at c2 c3 c6 c7
  obtain ⟨u, hu2⟩ : ∃ u, u = upd x y id := ⟨_, rfl⟩
  rw [← hu2] at c3 c6 c7
  obtain ⟨p1, hp1⟩ : ∃ p, p = S (put16 id) := ⟨_, rfl⟩
  obtain ⟨p2, hp2⟩ : ∃ p, p = S (put16 u) := ⟨_, rfl⟩
  obtain ⟨t1, ht1⟩ : ∃ p, p = S (lay (L s) 4 id) := ⟨_, rfl⟩
  obtain ⟨t2, ht2⟩ : ∃ p, p = S (queryOf (L s) id) := ⟨_, rfl⟩
  rw [← hp1] at c4 c5; rw [← hp2] at c6 c7; rw [← ht1] at c5 c7; rw [← ht2] at c7 ⊢
  have C1 := hide c1; have C2 := hide c2; have C3 := hide c3; have C4 := hide c4; have C5 := hide c5; have C6 := hide c6; have C7 := hide c7
  clear c1 c2 c3 c4 c5 c6 c7 hx hy hu2 hp1 hp2 ht1 ht2 hu b2 b4 hl z1
  go_enter Tryz.func159, Tryz.ntmps159
  go_wp2_with fail
  (with_reducible refine (C1.out _).mono ?_)
  rintro e w1 ⟨rfl, b1⟩
  replace b1 : Below w.heap.size w w1 := by (refine bstep ?_ b1); (repeat' (first | with_reducible exact Below.refl _ _ | with_reducible refine Below.setCell ?_ (by first | exact Nat.le_refl _ | (dsimp only; omega)) _ | with_reducible refine bstep ?_ (fresh_below _ _) | with_reducible refine Below.drew ?_))
  have z1 : w.heap.size ≤ w1.heap.size := b1.size
  go_wp2_with fail
  (with_reducible refine (C2.out _).mono ?_)
  rintro e w2 ⟨rfl, b2⟩
  replace b2 : Below w.heap.size w w2 := by (refine bstep ?_ b2); (repeat' (first | with_reducible exact b1 | with_reducible exact Below.refl _ _ | with_reducible refine Below.setCell ?_ (by first | exact Nat.le_refl _ | (dsimp only; omega)) _ | with_reducible refine bstep ?_ (fresh_below _ _) | with_reducible refine Below.drew ?_))
  have z2 : w.heap.size ≤ w2.heap.size := b2.size
  go_wp2_with fail
  (with_reducible refine (C3.out _).mono ?_)
  rintro e w3 ⟨rfl, rfl⟩
  go_wp2_with fail
  (with_reducible refine (C4.out _).mono ?_)
  rintro e w4 ⟨rfl, b4⟩
  replace b4 : Below w.heap.size w w4 := by (refine bstep ?_ b4); (repeat' (first | with_reducible exact b2 | with_reducible exact Below.refl _ _ | with_reducible refine Below.setCell ?_ (by first | exact Nat.le_refl _ | (dsimp only; omega)) _ | with_reducible refine bstep ?_ (fresh_below _ _) | with_reducible refine Below.drew ?_))
  have z4 : w.heap.size ≤ w4.heap.size := b4.size
  go_wp2_with fail
  (with_reducible refine (C5.out _).mono ?_)
  rintro e w5 ⟨rfl, b5⟩
  replace b5 : Below w.heap.size w w5 := by (refine bstep ?_ b5); (repeat' (first | with_reducible exact b4 | with_reducible exact Below.refl _ _ | with_reducible refine Below.setCell ?_ (by first | exact Nat.le_refl _ | (dsimp only; omega)) _ | with_reducible refine bstep ?_ (fresh_below _ _) | with_reducible refine Below.drew ?_))
  have z5 : w.heap.size ≤ w5.heap.size := b5.size
  go_wp2_with fail
  (with_reducible refine (C6.out _).mono ?_)
  rintro e w6 ⟨rfl, b6⟩
  replace b6 : Below w.heap.size w w6 := by (refine bstep ?_ b6); (repeat' (first | with_reducible exact b5 | with_reducible exact Below.refl _ _ | with_reducible refine Below.setCell ?_ (by first | exact Nat.le_refl _ | (dsimp only; omega)) _ | with_reducible refine bstep ?_ (fresh_below _ _) | with_reducible refine Below.drew ?_))
  have z6 : w.heap.size ≤ w6.heap.size := b6.size
  go_wp2_with fail
  (with_reducible refine (C7.out _).mono ?_)
  rintro e w7 ⟨rfl, b7⟩
  replace b7 : Below w.heap.size w w7 := by (refine bstep ?_ b7); (repeat' (first | with_reducible exact b6 | with_reducible exact Below.refl _ _ | with_reducible refine Below.setCell ?_ (by first | exact Nat.le_refl _ | (dsimp only; omega)) _ | with_reducible refine bstep ?_ (fresh_below _ _) | with_reducible refine Below.drew ?_))
  have z7 : w.heap.size ≤ w7.heap.size := b7.size
  go_wp2_with fail
  go_ret
  exact ⟨rfl, (by (repeat' (first | with_reducible exact b7 | with_reducible exact Below.refl _ _ | with_reducible refine Below.setCell ?_ (by first | exact Nat.le_refl _ | (dsimp only; omega)) _ | with_reducible refine bstep ?_ (fresh_below _ _) | with_reducible refine Below.drew ?_)))⟩
end Go.Proofs.YtilfcikhipadpaaGreatDoor
end

section
/- rewrite: a header, changed, over this program. -/
set_option linter.unusedVariables false
set_option linter.unusedSimpArgs false
namespace Go.Proofs.YtilfcikhipadpaaGreatDoor
open Go.RowKit
attribute [local go_sem] Oper.semAt_some

/-- a header's TTL, one less, and its protocol -/
def lifeOf (H : List UInt8) : List UInt8 := [byt (at_ H 8 - 1)] ++ (H.drop 9).take 1
def headSum (H : List UInt8) (a c : Int) : Int := updates (be16 H 10) ((H.drop 8).take 2 ++ (H.drop 12).take 8) (lifeOf H ++ ipsOf a c)
/-- a header, changed -/
def headNew (H : List UInt8) (a c : Int) : List UInt8 := H.take 8 ++ lifeOf H ++ put16 (headSum H a c) ++ ipsOf a c ++ H.drop 20

set_option maxRecDepth 100000 in
set_option maxHeartbeats 4000000 in
theorem rw_header (a b c d : Int) (s : ByteArray) (w : World) (ha : 0 ≤ a ∧ a ≤ 4294967295) (hc : 0 ≤ c ∧ c ≤ 4294967295) (hs : s.size ≤ 1000) (h20 : 20 ≤ s.size) (h1 : 1 ≤ at_ (L s) 8) :
    Calls Tryz.prog 106 #[.agg #[.int .u32 a, .int .u16 b, .int .u32 c, .int .u16 d], .string s] w (Ret (.string (S (headNew (L s) a c))) w) := by
  have hl : 20 ≤ (L s).length := by rw [L_length]; exact h20
  have hb8 := at_bd (L s) 8
  have e8 : (((s[8]'(by omega)).toNat : Nat) : Int) = at_ (L s) 8 := by rw [getElem_L s 8 (by omega)]; rfl
  have hnb := updates_bd (a := (((L s).drop 8).take 2 ++ ((L s).drop 12).take 8)) (b := (lifeOf (L s) ++ ipsOf a c)) (be16_bd (L s) 10)
  obtain ⟨t, ht⟩ : ∃ t, t = S [byt (at_ (L s) 8 - 1)] := ⟨_, rfl⟩
  obtain ⟨lf, hlf⟩ : ∃ t, t = S (lifeOf (L s)) := ⟨_, rfl⟩
  obtain ⟨ip, hip⟩ : ∃ t, t = S (ipsOf a c) := ⟨_, rfl⟩
  obtain ⟨n, hn⟩ : ∃ n, n = headSum (L s) a c := ⟨_, rfl⟩
  have hLt : L t = [byt (at_ (L s) 8 - 1)] := by rw [ht, L_S]
  have hLlf : L lf = lifeOf (L s) := by rw [hlf, L_S]
  have hLip : L ip = ipsOf a c := by rw [hip, L_S]
  have hlfl : (lifeOf (L s)).length = 2 := by unfold lifeOf; simp; omega
  have hipl : (ipsOf a c).length = 8 := rfl
  have f1 := fun (W : World) (A : Option Addr) (hR : Row W W.heap.size A 2 [.string t, .string (s.extract 9 10)]) => rw_laid A 2 2 [t, s.extract 9 10] W hR (by simp [allOf, hLt, L_extract]; omega) (by omega)
  rw [show S (allOf [t, s.extract 9 10]) = lf from by rw [hlf]; unfold allOf lifeOf; simp [hLt, L_extract]] at f1
  obtain ⟨p1, hp1⟩ : ∃ p, p = S (((L s).drop 8).take 2 ++ ((L s).drop 12).take 8) := ⟨_, rfl⟩
  obtain ⟨p2, hp2⟩ : ∃ p, p = S (lifeOf (L s) ++ ipsOf a c) := ⟨_, rfl⟩
  have f2 := fun (W : World) (A : Option Addr) (hR : Row W W.heap.size A 2 [.string (s.extract 8 10), .string (s.extract 12 20)]) => rw_laid A 2 2 [s.extract 8 10, s.extract 12 20] W hR (by simp [allOf, L_extract]; omega) (by omega)
  rw [show S (allOf [s.extract 8 10, s.extract 12 20]) = p1 from by rw [hp1]; unfold allOf; simp [L_extract]] at f2
  have f3 := fun (W : World) (A : Option Addr) (hR : Row W W.heap.size A 2 [.string lf, .string ip]) => rw_laid A 2 2 [lf, ip] W hR (by simp [allOf, hLlf, hLip, hlfl, hipl]) (by omega)
  rw [show S (allOf [lf, ip]) = p2 from by rw [hp2]; unfold allOf; simp [hLlf, hLip]] at f3
  have f4 := fun W => rw_word s 10 W (by unfold maxLen; omega) (by omega)
  rw [show ((10 : Nat) : Int) = 10 from rfl] at f4
  have f5 := fun W => rw_ips a b c d W ha hc
  rw [← hip] at f5
  have z1 : p1.size ≤ 140737488351232 := by rw [hp1, S_size]; simp; omega
  have z2 : p2.size ≤ 140737488351232 := by rw [hp2, S_size]; simp [hlfl, hipl]
  have f6 := fun W => Updates (be16 (L s) 10) p1 p2 W (be16_bd _ _) z1 z2
  rw [show updates (be16 (L s) 10) (L p1) (L p2) = n from by rw [hn, hp1, hp2, L_S, L_S]; rfl] at f6
  have hnb' : 0 ≤ n ∧ n ≤ 65535 := by rw [hn]; exact hnb
  have f7 := fun W => Put16 n W hnb'.1 hnb'.2
  obtain ⟨pn, hpn⟩ : ∃ p, p = S (put16 n) := ⟨_, rfl⟩
  rw [← hpn] at f7
  have f8 := fun (W : World) (A : Option Addr) (hR : Row W W.heap.size A 5 [.string (s.extract 0 8), .string lf, .string pn, .string ip, .string (s.extract 20 s.size)]) => rw_laid A 5 5 [s.extract 0 8, lf, pn, ip, s.extract 20 s.size] W hR (by
    unfold allOf
    rw [hpn]
    simp [hLlf, hLip, hlfl, hipl, L_extract, L_S, put16_length, L_length]; omega) (by omega)
  rw [show S (allOf [s.extract 0 8, lf, pn, ip, s.extract 20 s.size]) = S (headNew (L s) a c) from by
    apply L_inj
    rw [L_S, L_S]
    unfold allOf headNew
    rw [← hn, hpn]
    simp only [List.flatMap_cons, List.flatMap_nil, List.append_nil, hLlf, hLip, L_S, L_to, L_from, List.append_assoc]] at f8
  obtain ⟨out, hout⟩ : ∃ p, p = S (headNew (L s) a c) := ⟨_, rfl⟩
  rw [← hout] at f8 ⊢
  obtain ⟨x, hx⟩ : ∃ x, x = at_ (L s) 8 := ⟨_, rfl⟩
  rw [← hx] at e8 hb8 h1
  have cv : ∀ (W : World) (g : Nat), W.cell? ⟨g, 0, none⟩ = some (.int .u8 (x - 1)) → (convert 237 9 (.slice (some ⟨g, 0, none⟩) 1 1)).run Tryz.prog W = .ok (.string t) W := fun W g h0 => by
    rw [ht, ← hx]
    exact run_convert_bytes_arg (P := Tryz.prog) W 237 5 Tryz.underlying237 Tryz.underlying5 g 0 1 1 [x - 1] rfl
      (fun i hi => by
        match i, hi with
        | 0, _ => exact h0) 9 Tryz.underlying9
  obtain ⟨v, hv⟩ : ∃ v, v = be16 (L s) 10 := ⟨_, rfl⟩
  rw [← hv] at f4 f6
  have wx : IntKind.u8.wrap (x - 1) = x - 1 := by rw [IntKind.wrap_u8]; omega
  have i1 : (20 : Int) ≤ (s.size : Int) := by omega
  have i2 : (8 : Int) < (s.size : Int) := by omega
  have i3 : (10 : Int) ≤ (s.size : Int) := by omega
  have i4 : 8 < s.size := by omega
  have i5 : (8 : Int) ≤ (s.size : Int) := by omega
  have F1 := hide f1; have F2 := hide f2; have F3 := hide f3; have F4 := hide f4; have F5 := hide f5; have F6 := hide f6; have F7 := hide f7; have F8 := hide f8
  clear f1 f2 f3 f4 f5 f6 f7 f8 hl hnb hnb' ht hlf hip hn hLt hLlf hLip hlfl hipl hp1 hp2 z1 z2 hpn hout hx hv hb8
  go_enter Tryz.func106, Tryz.ntmps106
  have d0 := Cells.new w #[.int .u32 a, .int .u16 b, .int .u32 c, .int .u16 d] 136
  go_wp2_with fail
  have SK := hide (fun (zX zY : World) (zh : (Below w.heap.size w zX ∧ zX.cell? ⟨w.heap.size, 0, none⟩ = some (.int .u32 a) ∧ zX.cell? ⟨w.heap.size, 1, none⟩ = some (.int .u16 b) ∧ zX.cell? ⟨w.heap.size, 2, none⟩ = some (.int .u32 c) ∧ zX.cell? ⟨w.heap.size, 3, none⟩ = some (.int .u16 d) ∧ True)) (zb : Below zX.heap.size zX zY) => (show (Below w.heap.size w zY ∧ zY.cell? ⟨w.heap.size, 0, none⟩ = some (.int .u32 a) ∧ zY.cell? ⟨w.heap.size, 1, none⟩ = some (.int .u16 b) ∧ zY.cell? ⟨w.heap.size, 2, none⟩ = some (.int .u32 c) ∧ zY.cell? ⟨w.heap.size, 3, none⟩ = some (.int .u16 d) ∧ True) from ⟨bstep zh.1 zb, cellAt zb zh.2.1, cellAt zb zh.2.2.1, cellAt zb zh.2.2.2.1, cellAt zb zh.2.2.2.2.1, trivial⟩))
  have FS := hide (fun (zX : World) (zh : (Below w.heap.size w zX ∧ zX.cell? ⟨w.heap.size, 0, none⟩ = some (.int .u32 a) ∧ zX.cell? ⟨w.heap.size, 1, none⟩ = some (.int .u16 b) ∧ zX.cell? ⟨w.heap.size, 2, none⟩ = some (.int .u32 c) ∧ zX.cell? ⟨w.heap.size, 3, none⟩ = some (.int .u16 d) ∧ True)) => zh.1)
  have GS := hide (fun (zX : World) (zh : (Below w.heap.size w zX ∧ zX.cell? ⟨w.heap.size, 0, none⟩ = some (.int .u32 a) ∧ zX.cell? ⟨w.heap.size, 1, none⟩ = some (.int .u16 b) ∧ zX.cell? ⟨w.heap.size, 2, none⟩ = some (.int .u32 c) ∧ zX.cell? ⟨w.heap.size, 3, none⟩ = some (.int .u16 d) ∧ True)) => zh)
  have hS0 : (Below w.heap.size w (w.alloc (.cells #[.int .u32 a, .int .u16 b, .int .u32 c, .int .u16 d] 136)) ∧ (w.alloc (.cells #[.int .u32 a, .int .u16 b, .int .u32 c, .int .u16 d] 136)).cell? ⟨w.heap.size, 0, none⟩ = some (.int .u32 a) ∧ (w.alloc (.cells #[.int .u32 a, .int .u16 b, .int .u32 c, .int .u16 d] 136)).cell? ⟨w.heap.size, 1, none⟩ = some (.int .u16 b) ∧ (w.alloc (.cells #[.int .u32 a, .int .u16 b, .int .u32 c, .int .u16 d] 136)).cell? ⟨w.heap.size, 2, none⟩ = some (.int .u32 c) ∧ (w.alloc (.cells #[.int .u32 a, .int .u16 b, .int .u32 c, .int .u16 d] 136)).cell? ⟨w.heap.size, 3, none⟩ = some (.int .u16 d) ∧ True) := ⟨(by (repeat' (first | with_reducible exact Below.refl _ _ | with_reducible refine Below.setCell ?_ (by first | exact Nat.le_refl _ | (dsimp only; omega)) _ | with_reducible refine bstep ?_ (fresh_below _ _) | with_reducible refine Below.drew ?_))), d0.at_ 0, d0.at_ 1, d0.at_ 2, d0.at_ 3, trivial⟩
  go_region_held_law (fun w' => (Below w.heap.size w w' ∧ w'.cell? ⟨w.heap.size, 0, none⟩ = some (.int .u32 a) ∧ w'.cell? ⟨w.heap.size, 1, none⟩ = some (.int .u16 b) ∧ w'.cell? ⟨w.heap.size, 2, none⟩ = some (.int .u32 c) ∧ w'.cell? ⟨w.heap.size, 3, none⟩ = some (.int .u16 d) ∧ True)) (first | assumption | exact SK.out _ _ hS0 (Below.refl _ _).drew | exact SK.out _ _ hS0 (fresh_below _ _).drew | exact SK.out _ _ (by assumption) (fresh_below _ _) | (refine SK.out _ _ ?_ (by assumption); assumption))
    (first | (go_at_call 154; (with_reducible refine Calls.mono (F1.out _ _ ?_) ?_); (focus ((repeat' (first | with_reducible refine Row.afterdraw ?_ | with_reducible exact Row.freshAt _ _ _ _ _ _ (by first | (simp; done) | fail) rfl rfl | (with_reducible refine Row.rise ?_ (fresh_below _ _)) | (with_reducible refine Row.rise ?_ (by with_reducible assumption)))); (first | done | fail))); rintro e wq ⟨rfl, bq⟩))
  all_goals
    have gs := GS.out _ (by assumption)
    obtain ⟨gb, g0, g1, g2, g3, _⟩ := gs
    clear SK FS GS hS0
    obtain ⟨wA, rfl⟩ : ∃ W : World, W = wq := ⟨_, rfl⟩
    have bA : Below w.heap.size w wA := gb
    go_wp2_with fail
    have SK := hide (fun (zX zY : World) (zh : (Below w.heap.size w zX ∧ zX.cell? ⟨w.heap.size, 0, none⟩ = some (.int .u32 a) ∧ zX.cell? ⟨w.heap.size, 1, none⟩ = some (.int .u16 b) ∧ zX.cell? ⟨w.heap.size, 2, none⟩ = some (.int .u32 c) ∧ zX.cell? ⟨w.heap.size, 3, none⟩ = some (.int .u16 d) ∧ True)) (zb : Below zX.heap.size zX zY) => (show (Below w.heap.size w zY ∧ zY.cell? ⟨w.heap.size, 0, none⟩ = some (.int .u32 a) ∧ zY.cell? ⟨w.heap.size, 1, none⟩ = some (.int .u16 b) ∧ zY.cell? ⟨w.heap.size, 2, none⟩ = some (.int .u32 c) ∧ zY.cell? ⟨w.heap.size, 3, none⟩ = some (.int .u16 d) ∧ True) from ⟨bstep zh.1 zb, cellAt zb zh.2.1, cellAt zb zh.2.2.1, cellAt zb zh.2.2.2.1, cellAt zb zh.2.2.2.2.1, trivial⟩))
    have FS := hide (fun (zX : World) (zh : (Below w.heap.size w zX ∧ zX.cell? ⟨w.heap.size, 0, none⟩ = some (.int .u32 a) ∧ zX.cell? ⟨w.heap.size, 1, none⟩ = some (.int .u16 b) ∧ zX.cell? ⟨w.heap.size, 2, none⟩ = some (.int .u32 c) ∧ zX.cell? ⟨w.heap.size, 3, none⟩ = some (.int .u16 d) ∧ True)) => zh.1)
    have GS := hide (fun (zX : World) (zh : (Below w.heap.size w zX ∧ zX.cell? ⟨w.heap.size, 0, none⟩ = some (.int .u32 a) ∧ zX.cell? ⟨w.heap.size, 1, none⟩ = some (.int .u16 b) ∧ zX.cell? ⟨w.heap.size, 2, none⟩ = some (.int .u32 c) ∧ zX.cell? ⟨w.heap.size, 3, none⟩ = some (.int .u16 d) ∧ True)) => zh)
    have hS0 : (Below w.heap.size w wA ∧ wA.cell? ⟨w.heap.size, 0, none⟩ = some (.int .u32 a) ∧ wA.cell? ⟨w.heap.size, 1, none⟩ = some (.int .u16 b) ∧ wA.cell? ⟨w.heap.size, 2, none⟩ = some (.int .u32 c) ∧ wA.cell? ⟨w.heap.size, 3, none⟩ = some (.int .u16 d) ∧ True) := ⟨(by (repeat' (first | with_reducible exact bA | with_reducible exact Below.refl _ _ | with_reducible refine Below.setCell ?_ (by first | exact Nat.le_refl _ | (dsimp only; omega)) _ | with_reducible refine bstep ?_ (fresh_below _ _) | with_reducible refine Below.drew ?_))), g0, g1, g2, g3, trivial⟩
    go_region_held_law (fun w' => (Below w.heap.size w w' ∧ w'.cell? ⟨w.heap.size, 0, none⟩ = some (.int .u32 a) ∧ w'.cell? ⟨w.heap.size, 1, none⟩ = some (.int .u16 b) ∧ w'.cell? ⟨w.heap.size, 2, none⟩ = some (.int .u32 c) ∧ w'.cell? ⟨w.heap.size, 3, none⟩ = some (.int .u16 d) ∧ True)) (first | assumption | exact SK.out _ _ hS0 (Below.refl _ _).drew | exact SK.out _ _ hS0 (fresh_below _ _).drew | exact SK.out _ _ (by assumption) (fresh_below _ _) | (refine SK.out _ _ ?_ (by assumption); assumption))
      (first | (go_at_call 155; (with_reducible refine (F4.out _).mono ?_); rintro e wq ⟨rfl, bq⟩) | (go_at_call 154; (with_reducible refine Calls.mono (F2.out _ _ ?_) ?_); (focus ((repeat' (first | with_reducible refine Row.afterdraw ?_ | with_reducible exact Row.freshAt _ _ _ _ _ _ (by first | (simp; done) | fail) rfl rfl | (with_reducible refine Row.rise ?_ (fresh_below _ _)) | (with_reducible refine Row.rise ?_ (by with_reducible assumption)))); (first | done | fail))); rintro e wq ⟨rfl, bq⟩) | (go_at_call 154; (with_reducible refine Calls.mono (F3.out _ _ ?_) ?_); (focus ((repeat' (first | with_reducible refine Row.afterdraw ?_ | with_reducible exact Row.freshAt _ _ _ _ _ _ (by first | (simp; done) | fail) rfl rfl | (with_reducible refine Row.rise ?_ (fresh_below _ _)) | (with_reducible refine Row.rise ?_ (by with_reducible assumption)))); (first | done | fail))); rintro e wq ⟨rfl, bq⟩) | (go_at_call 156; (with_reducible refine (F5.out _).mono ?_); rintro e wq ⟨rfl, bq⟩) | (go_at_call 109; (with_reducible refine (F6.out _).mono ?_); rintro e wq ⟨rfl, bq⟩))
    all_goals
      have gs := GS.out _ (by assumption)
      clear g0 g1 g2 g3 gb bA
      obtain ⟨gb, g0, g1, g2, g3, _⟩ := gs
      clear SK FS GS hS0
      obtain ⟨wB, rfl⟩ : ∃ W : World, W = wq := ⟨_, rfl⟩
      have bA : Below w.heap.size w wB := gb
      go_wp2_with fail
      have SK := hide (fun (zX zY : World) (zh : (Below w.heap.size w zX ∧ zX.cell? ⟨w.heap.size, 0, none⟩ = some (.int .u32 a) ∧ zX.cell? ⟨w.heap.size, 1, none⟩ = some (.int .u16 b) ∧ zX.cell? ⟨w.heap.size, 2, none⟩ = some (.int .u32 c) ∧ zX.cell? ⟨w.heap.size, 3, none⟩ = some (.int .u16 d) ∧ True)) (zb : Below zX.heap.size zX zY) => (show (Below w.heap.size w zY ∧ zY.cell? ⟨w.heap.size, 0, none⟩ = some (.int .u32 a) ∧ zY.cell? ⟨w.heap.size, 1, none⟩ = some (.int .u16 b) ∧ zY.cell? ⟨w.heap.size, 2, none⟩ = some (.int .u32 c) ∧ zY.cell? ⟨w.heap.size, 3, none⟩ = some (.int .u16 d) ∧ True) from ⟨bstep zh.1 zb, cellAt zb zh.2.1, cellAt zb zh.2.2.1, cellAt zb zh.2.2.2.1, cellAt zb zh.2.2.2.2.1, trivial⟩))
      have FS := hide (fun (zX : World) (zh : (Below w.heap.size w zX ∧ zX.cell? ⟨w.heap.size, 0, none⟩ = some (.int .u32 a) ∧ zX.cell? ⟨w.heap.size, 1, none⟩ = some (.int .u16 b) ∧ zX.cell? ⟨w.heap.size, 2, none⟩ = some (.int .u32 c) ∧ zX.cell? ⟨w.heap.size, 3, none⟩ = some (.int .u16 d) ∧ True)) => zh.1)
      have GS := hide (fun (zX : World) (zh : (Below w.heap.size w zX ∧ zX.cell? ⟨w.heap.size, 0, none⟩ = some (.int .u32 a) ∧ zX.cell? ⟨w.heap.size, 1, none⟩ = some (.int .u16 b) ∧ zX.cell? ⟨w.heap.size, 2, none⟩ = some (.int .u32 c) ∧ zX.cell? ⟨w.heap.size, 3, none⟩ = some (.int .u16 d) ∧ True)) => zh)
      have hS0 : (Below w.heap.size w wB ∧ wB.cell? ⟨w.heap.size, 0, none⟩ = some (.int .u32 a) ∧ wB.cell? ⟨w.heap.size, 1, none⟩ = some (.int .u16 b) ∧ wB.cell? ⟨w.heap.size, 2, none⟩ = some (.int .u32 c) ∧ wB.cell? ⟨w.heap.size, 3, none⟩ = some (.int .u16 d) ∧ True) := ⟨(by (repeat' (first | with_reducible exact bA | with_reducible exact Below.refl _ _ | with_reducible refine Below.setCell ?_ (by first | exact Nat.le_refl _ | (dsimp only; omega)) _ | with_reducible refine bstep ?_ (fresh_below _ _) | with_reducible refine Below.drew ?_))), g0, g1, g2, g3, trivial⟩
      go_region_held_law (fun w' => (Below w.heap.size w w' ∧ w'.cell? ⟨w.heap.size, 0, none⟩ = some (.int .u32 a) ∧ w'.cell? ⟨w.heap.size, 1, none⟩ = some (.int .u16 b) ∧ w'.cell? ⟨w.heap.size, 2, none⟩ = some (.int .u32 c) ∧ w'.cell? ⟨w.heap.size, 3, none⟩ = some (.int .u16 d) ∧ True)) (first | assumption | exact SK.out _ _ hS0 (Below.refl _ _).drew | exact SK.out _ _ hS0 (fresh_below _ _).drew | exact SK.out _ _ (by assumption) (fresh_below _ _) | (refine SK.out _ _ ?_ (by assumption); assumption))
        (first | (go_at_call 157; (with_reducible refine (F7.out _).mono ?_); rintro e wq ⟨rfl, bq⟩) | (go_at_call 156; (with_reducible refine (F5.out _).mono ?_); rintro e wq ⟨rfl, bq⟩) | (go_at_call 154; (with_reducible refine Calls.mono (F8.out _ _ ?_) ?_); (focus ((repeat' (first | with_reducible refine Row.afterdraw ?_ | with_reducible exact Row.freshAt _ _ _ _ _ _ (by first | (simp; done) | fail) rfl rfl | (with_reducible refine Row.rise ?_ (fresh_below _ _)) | (with_reducible refine Row.rise ?_ (by with_reducible assumption)))); (first | done | fail))); rintro e wq ⟨rfl, bq⟩))
      all_goals
        go_wp2
        go_ret
        exact ⟨rfl, (by first | exact FS.out _ (by assumption) | exact bstep (FS.out _ (by assumption)) (fresh_below _ _) | exact bstep (bstep (FS.out _ (by assumption)) (fresh_below _ _)) (fresh_below _ _))⟩
end Go.Proofs.YtilfcikhipadpaaGreatDoor
end

section
/- What a call leaves but for some blocks; stores of several cells. No program. -/
set_option linter.unusedVariables false
set_option linter.unusedSimpArgs false
namespace Go.Proofs.YtilfcikhipadpaaGreatDoor
open Go.RowKit

theorem Cells.setCells_ {b : Nat} {T : TypeId} : ∀ (vs : List Value) (o : Nat) (cs : Array Value) (w : World), Cells w b cs T → o + vs.length ≤ cs.size → ∃ cs', Cells (w.setCells b o vs) b cs' T ∧ cs'.size = cs.size ∧ ∀ j, cs'.toList[j]? = if o ≤ j ∧ j < o + vs.length then vs[j - o]? else cs.toList[j]?
  | [], o, cs, w, h, _ => ⟨cs, h, rfl, fun j => by rw [if_neg (by simp)]⟩
  | v :: vs, o, cs, w, h, hs => by
    simp only [List.length_cons] at hs
    obtain ⟨cs', h1, h2, h3⟩ := Cells.setCells_ vs (o + 1) _ _ (Cells.set_ h o v) (by simp; omega)
    refine ⟨cs', h1, by rw [h2]; simp, fun j => ?_⟩
    rw [h3 j]
    by_cases e : j = o
    · subst e
      rw [if_neg (by omega), if_pos (by simp), Array.toList_setIfInBounds, List.getElem?_set_self (by rw [Array.length_toList]; omega)]
      simp
    · by_cases h4 : o + 1 ≤ j ∧ j < o + 1 + vs.length
      · rw [if_pos h4, if_pos (by simp only [List.length_cons]; omega), show j - o = (j - (o + 1)) + 1 by omega]
        rfl
      · rw [if_neg h4, if_neg (by simp only [List.length_cons]; omega)]
        rw [Array.toList_setIfInBounds, List.getElem?_set_ne (by omega)]
theorem size_setCells_ (b : Nat) : ∀ (vs : List Value) (o : Nat) (w : World), (w.setCells b o vs).heap.size = w.heap.size
  | [], _, _ => rfl
  | v :: vs, o, w => by rw [World.setCells, size_setCells_ b vs]; simp
theorem Only.setCells_ {X : Nat → Prop} {A : World} {b : Nat} : ∀ (vs : List Value) (o : Nat) (w : World), Only X A w → X b ∨ A.heap.size ≤ b → Only X A (w.setCells b o vs)
  | [], _, _, h, _ => h
  | v :: vs, o, w, h, hb => Only.setCells_ vs (o + 1) _ (by
      refine ⟨h.os, h.tape, h.output, by have := h.size; simpa using this, fun k hk hx => ?_⟩
      refine Eq.trans ?_ (h.block k hk hx)
      exact Below.heap_setCell w ⟨b, o, none⟩ v k (by
        show k ≠ b
        rintro rfl
        rcases hb with hb | hb
        · exact hx hb
        · omega)) hb
theorem Cells.only {W W' : World} {b : Nat} {cs : Array Value} {T : TypeId} {X : Nat → Prop} (h : Cells W b cs T) (k : Only X W W') (hx : ¬ X b) : Cells W' b cs T := (k.block b h.lt hx).trans h
theorem Only.mono {X Y : Nat → Prop} {A C : World} (h : Only X A C) (k : ∀ i, X i → Y i) : Only Y A C := ⟨h.os, h.tape, h.output, h.size, fun i hi hx => h.block i hi fun hX => hx (k i hX)⟩
theorem Only.drew {X : Nat → Prop} {A B : World} (h : Only X A B) : Only X A B.drew := ⟨h.os, h.tape, h.output, h.size, h.block⟩
theorem Cells.like {w : World} {b : Nat} {cs cs' : Array Value} {T : TypeId} (h : Cells w b cs T) (e : cs = cs') : Cells w b cs' T := e ▸ h
end Go.Proofs.YtilfcikhipadpaaGreatDoor
end

section
/- A whole struct (of whatever number of cells) stored into a block that is known whole, and loaded out of it: the world behind it by what it keeps. -/
set_option linter.unusedVariables false
set_option linter.unusedSimpArgs false
namespace Go.Proofs.YtilfcikhipadpaaGreatDoor
open Go.RowKit Go.Lib

theorem Cells.range {w : World} {g : Nat} {c : Array Value} {T : TypeId} (h : Cells w g c T) : w.rangeAt g 0 c.toList := fun j v hv => by
  rw [Nat.zero_add, h.at_ j, ← Array.getElem?_toList]; exact hv
theorem Cells.there {w : World} {g : Nat} {c : Array Value} {T : TypeId} (h : Cells w g c T) {n : Nat} (hn : n ≤ c.size) : w.there g 0 n := fun j hj => by
  rw [Nat.zero_add]
  exact ⟨by rw [h.at_ j, Array.getElem?_eq_getElem (by omega)]; rfl, h.free j⟩
theorem Cells.all {w : World} {g : Nat} {c c' : Array Value} {T : TypeId} (h : Cells w g c T) (hs : c.size = c'.size) : Cells (w.setCells g 0 c'.toList) g c' T := by
  obtain ⟨cs, h1, h2, h3⟩ := Cells.setCells_ c'.toList 0 c w h (by simp [hs])
  have e : cs = c' := by
    apply Array.ext'
    apply List.ext_getElem?
    intro j
    rw [h3 j]
    by_cases hj : j < c'.size
    · rw [if_pos ⟨Nat.zero_le _, by simpa using hj⟩, Nat.sub_zero]
    · rw [if_neg (fun k => hj (by simpa using k.2)), List.getElem?_eq_none (by simp; omega), List.getElem?_eq_none (by simp; omega)]
  exact e ▸ h1
/-- the world behind a store of a whole struct: the block has the new cells, all others lie as they lay -/
theorem stored {w : World} {g : Nat} {c c' : Array Value} {T : TypeId} (h : Cells w g c T) (hs : c.size = c'.size) : Cells (w.setCells g 0 c'.toList) g c' T ∧ Only (fun i => i = g) w (w.setCells g 0 c'.toList) ∧ (w.setCells g 0 c'.toList).heap.size = w.heap.size :=
  ⟨Cells.all h hs, Only.setCells_ _ _ _ (Only.refl _ _) (Or.inl rfl), size_setCells_ _ _ _ _⟩
variable {P : Program}
end Go.Proofs.YtilfcikhipadpaaGreatDoor
end
