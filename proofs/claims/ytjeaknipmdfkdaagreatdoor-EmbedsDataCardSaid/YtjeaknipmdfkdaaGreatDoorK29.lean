/- Several texts of this claim, one behind the other. -/
import Derived.Test.YtjeaknipmdfkdaaGreatDoorK16
import Derived.Test.YtjeaknipmdfkdaaGreatDoorK4
import Derived.Test.YtjeaknipmdfkdaaGreatDoorK2
import Derived.Test.YtjeaknipmdfkdaaGreatDoorK19

section
/- The document's answer for rewrite (porterref09): With, Word, Pair, Query, over this program. -/
set_option linter.unusedVariables false
set_option linter.unusedSimpArgs false
namespace Go.Proofs.YtjeaknipmdfkdaaGreatDoor
open Go.RowKit
attribute [local go_sem] Oper.semAt_some

theorem r_Get16_in (s : ByteArray) (k : Nat) (w : World) (hs : s.size ≤ 140737488351232) (h : k + 2 ≤ s.size) : Calls Tryz.prog 113 #[.string s, .int .i64 k] w (Ret (.tuple #[.int .u16 (be16 (L s) k), .bool true]) w) := by
  have c := r_Get16 s (k : Int) w (by unfold maxLen; omega) ⟨by omega, by omega⟩
  rw [get16_nat (by rw [L_length]; exact h), show has s.size (k : Int) 2 = true from by simp [has]; omega] at c
  exact c
theorem rn_Word (s : ByteArray) (k : Nat) (w : World) (hs : s.size ≤ 140737488351232) (h : k + 2 ≤ s.size) :
    Calls Tryz.prog 60 #[.string s, .int .i64 k] w (Ret (.int .u16 (be16 (L s) k)) w) := by
  have c := fun w => r_Get16_in s k w hs h
  obtain ⟨x, hx⟩ : ∃ x, x = be16 (L s) k := ⟨_, rfl⟩
  rw [← hx] at c ⊢
  have C := hide c
  clear c hx
  go_enter Tryz.func60, Tryz.ntmps60
  go_wp2_with fail
  (with_reducible refine (C.out _).mono ?_)
  rintro e w1 ⟨rfl, b1⟩
  go_wp2_with fail
  go_ret
  exact ⟨rfl, (by (repeat' (first | with_reducible exact b1 | with_reducible exact Below.refl _ _ | with_reducible refine Below.setCell ?_ (by first | exact Nat.le_refl _ | (dsimp only; omega)) _ | with_reducible refine bstep ?_ (fresh_below _ _) | with_reducible refine Below.drew ?_)))⟩
theorem rn_With (s : ByteArray) (k : Nat) (p : ByteArray) (w : World) (hs : s.size ≤ 140737488351232) (h : k + p.size ≤ s.size) :
    Calls Tryz.prog 38 #[.string s, .int .i64 k, .string p] w (Ret (.string (S ((L s).take k ++ (L p ++ (L s).drop (k + p.size))))) w) := by
  have c := fun w => r_With s (k : Int) p w hs (by omega) ⟨by omega, by omega⟩
  have hx : has s.size (k : Int) p.size = true := by simp [has]; omega
  rw [show putAt (L s) (k : Int) (L p) = (L s).take k ++ (L p ++ (L s).drop (k + p.size)) from by unfold putAt; rw [L_length, L_length, if_pos hx]; rfl, hx] at c
  obtain ⟨x, hx⟩ : ∃ x, x = S ((L s).take k ++ (L p ++ (L s).drop (k + p.size))) := ⟨_, rfl⟩
  rw [← hx] at c ⊢
  have C := hide c
  clear c hx
  go_enter Tryz.func38, Tryz.ntmps38
  go_wp2_with fail
  (with_reducible refine (C.out _).mono ?_)
  rintro e w1 ⟨rfl, b1⟩
  go_wp2_with fail
  go_ret
  exact ⟨rfl, (by (repeat' (first | with_reducible exact b1 | with_reducible exact Below.refl _ _ | with_reducible refine Below.setCell ?_ (by first | exact Nat.le_refl _ | (dsimp only; omega)) _ | with_reducible refine bstep ?_ (fresh_below _ _) | with_reducible refine Below.drew ?_)))⟩

set_option maxRecDepth 100000 in
set_option maxHeartbeats 2000000 in
theorem rn_Pair (a b c d : Int) (w : World) (ha : 0 ≤ a ∧ a ≤ 4294967295) (hc : 0 ≤ c ∧ c ≤ 4294967295) :
    Calls Tryz.prog 76 #[.agg #[.int .u32 a, .int .u16 b, .int .u32 c, .int .u16 d]] w (Ret (.string (S (ipsOf a c))) w) := by
  have f1 := fun W => r_Put32 a W ha.1 ha.2
  have f2 := fun W => r_Put32 c W hc.1 hc.2
  have e3 : S (put32 a) ++ S (put32 c) = S (ipsOf a c) := by rw [S_append]; rfl
  have z3 : (S (put32 a)).size + (S (put32 c)).size ≤ 1000 := by rw [S_size, S_size]; simp [put32, put16_length]
  obtain ⟨s1, h1⟩ : ∃ s, s = S (put32 a) := ⟨_, rfl⟩
  obtain ⟨s2, h2⟩ : ∃ s, s = S (put32 c) := ⟨_, rfl⟩
  rw [← h1] at f1 e3 z3; rw [← h2] at f2 e3 z3; rw [← e3]
  have z4 : (s1 ++ s2).size ≤ 1000 := by rw [ByteArray.size_append]; exact z3
  have F1 := hide f1; have F2 := hide f2
  clear f1 f2 e3 h1 h2
  go_enter Tryz.func76, Tryz.ntmps76
  have d0 := Cells.new w #[.int .u32 a, .int .u16 b, .int .u32 c, .int .u16 d] 39
  go_wp2_with fail
  have SK := hide (fun (zX zY : World) (zh : (Below w.heap.size w zX ∧ zX.cell? ⟨w.heap.size, 0, none⟩ = some (.int .u32 a) ∧ zX.cell? ⟨w.heap.size, 2, none⟩ = some (.int .u32 c) ∧ True)) (zb : Below zX.heap.size zX zY) => (show (Below w.heap.size w zY ∧ zY.cell? ⟨w.heap.size, 0, none⟩ = some (.int .u32 a) ∧ zY.cell? ⟨w.heap.size, 2, none⟩ = some (.int .u32 c) ∧ True) from ⟨bstep zh.1 zb, cellAt zb zh.2.1, cellAt zb zh.2.2.1, trivial⟩))
  have FS := hide (fun (zX : World) (zh : (Below w.heap.size w zX ∧ zX.cell? ⟨w.heap.size, 0, none⟩ = some (.int .u32 a) ∧ zX.cell? ⟨w.heap.size, 2, none⟩ = some (.int .u32 c) ∧ True)) => zh.1)
  have GS := hide (fun (zX : World) (zh : (Below w.heap.size w zX ∧ zX.cell? ⟨w.heap.size, 0, none⟩ = some (.int .u32 a) ∧ zX.cell? ⟨w.heap.size, 2, none⟩ = some (.int .u32 c) ∧ True)) => zh)
  have hS0 : (Below w.heap.size w (w.alloc (.cells #[.int .u32 a, .int .u16 b, .int .u32 c, .int .u16 d] 39)) ∧ (w.alloc (.cells #[.int .u32 a, .int .u16 b, .int .u32 c, .int .u16 d] 39)).cell? ⟨w.heap.size, 0, none⟩ = some (.int .u32 a) ∧ (w.alloc (.cells #[.int .u32 a, .int .u16 b, .int .u32 c, .int .u16 d] 39)).cell? ⟨w.heap.size, 2, none⟩ = some (.int .u32 c) ∧ True) := ⟨(by (repeat' (first | with_reducible exact Below.refl _ _ | with_reducible refine Below.setCell ?_ (by first | exact Nat.le_refl _ | (dsimp only; omega)) _ | with_reducible refine bstep ?_ (fresh_below _ _) | with_reducible refine Below.drew ?_))), d0.at_ 0, d0.at_ 2, trivial⟩
  go_region_held_law (fun w' => (Below w.heap.size w w' ∧ w'.cell? ⟨w.heap.size, 0, none⟩ = some (.int .u32 a) ∧ w'.cell? ⟨w.heap.size, 2, none⟩ = some (.int .u32 c) ∧ True)) (first | assumption | exact SK.out _ _ hS0 (Below.refl _ _).drew | exact SK.out _ _ hS0 (fresh_below _ _).drew | exact SK.out _ _ (by assumption) (fresh_below _ _) | (refine SK.out _ _ ?_ (by assumption); assumption))
    (first | (go_at_call 83; (with_reducible refine (F1.out _).mono ?_); rintro e wq ⟨rfl, bq⟩) | (go_at_call 83; (with_reducible refine (F2.out _).mono ?_); rintro e wq ⟨rfl, bq⟩))
  all_goals
    go_wp2
    go_ret
    exact ⟨rfl, (by first | exact FS.out _ (by assumption) | exact bstep (FS.out _ (by assumption)) (fresh_below _ _) | exact bstep (bstep (FS.out _ (by assumption)) (fresh_below _ _)) (fresh_below _ _))⟩

set_option maxHeartbeats 1000000 in
theorem rn_query (s : ByteArray) (id : Int) (w : World) (hs : s.size ≤ 140737488351232) (h : 8 ≤ s.size) (hi : 0 ≤ id ∧ id ≤ 65535) :
    Calls Tryz.prog 75 #[.string s, .int .u16 id] w (Ret (.string (S (queryOf (L s) id))) w) := by
  have b2 := be16_bd (L s) 2
  have b4 := be16_bd (L s) 4
  have hu := upd_bd b2 b4 hi
  have hl : 8 ≤ (L s).length := by rw [L_length]; exact h
  have z1 : (S (lay (L s) 4 id)).size = s.size := by rw [S_size, lay_length (by omega), L_length]
  have c1 := fun w => rn_Word s 2 w hs (by omega)
  have c2 := fun w => rn_Word s 4 w hs (by omega)
  have c3 := fun w => r_Update (be16 (L s) 2) (be16 (L s) 4) id w b2 b4 hi
  have c4 := fun w => r_Put16 id w hi.1 hi.2
  have c5 := fun w => rn_With s 4 (S (put16 id)) w hs (by rw [S_size, put16_length]; omega)
  have c6 := fun w => r_Put16 (upd (be16 (L s) 2) (be16 (L s) 4) id) w hu.1 hu.2
  have c7 := fun w => rn_With (S (lay (L s) 4 id)) 2 (S (put16 (upd (be16 (L s) 2) (be16 (L s) 4) id))) w (by omega) (by rw [S_size (put16 _), put16_length]; omega)
  rw [show (L s).take 4 ++ (L (S (put16 id)) ++ (L s).drop (4 + (S (put16 id)).size)) = lay (L s) 4 id from by rw [← List.append_assoc]; rfl] at c5
  rw [show (L (S (lay (L s) 4 id))).take 2 ++ (L (S (put16 (upd (be16 (L s) 2) (be16 (L s) 4) id))) ++ (L (S (lay (L s) 4 id))).drop (2 + (S (put16 (upd (be16 (L s) 2) (be16 (L s) 4) id))).size)) = queryOf (L s) id from by rw [L_S, ← List.append_assoc]; rfl] at c7
  rw [show ((2 : Nat) : Int) = 2 from rfl] at c1 c7
  rw [show ((4 : Nat) : Int) = 4 from rfl] at c2 c5
  obtain ⟨x, hx⟩ : ∃ x, x = be16 (L s) 2 := ⟨_, rfl⟩
  obtain ⟨y, hy⟩ : ∃ y, y = be16 (L s) 4 := ⟨_, rfl⟩
  rw [← hx] at c1 c3 c6 c7; rw [← hy] at c2 c3 c6 c7
  obtain ⟨u, hu2⟩ : ∃ u, u = upd x y id := ⟨_, rfl⟩
  rw [← hu2] at c3 c6 c7
  obtain ⟨p1, hp1⟩ : ∃ p, p = S (put16 id) := ⟨_, rfl⟩
  obtain ⟨p2, hp2⟩ : ∃ p, p = S (put16 u) := ⟨_, rfl⟩
  obtain ⟨t1, ht1⟩ : ∃ p, p = S (lay (L s) 4 id) := ⟨_, rfl⟩
  obtain ⟨t2, ht2⟩ : ∃ p, p = S (queryOf (L s) id) := ⟨_, rfl⟩
  rw [← hp1] at c4 c5; rw [← hp2] at c6 c7; rw [← ht1] at c5 c7; rw [← ht2] at c7 ⊢
  have C1 := hide c1; have C2 := hide c2; have C3 := hide c3; have C4 := hide c4; have C5 := hide c5; have C6 := hide c6; have C7 := hide c7
  clear c1 c2 c3 c4 c5 c6 c7 hx hy hu2 hp1 hp2 ht1 ht2 hu b2 b4 hl z1
  go_enter Tryz.func75, Tryz.ntmps75
  go_wp2_with fail
  (with_reducible refine (C1.out _).mono ?_)
  rintro e w1 ⟨rfl, b1⟩
  replace b1 : Below w.heap.size w w1 := by (refine bstep ?_ b1); (repeat' (first | with_reducible exact Below.refl _ _ | with_reducible refine Below.setCell ?_ (by first | exact Nat.le_refl _ | (dsimp only; omega)) _ | with_reducible refine bstep ?_ (fresh_below _ _) | with_reducible refine Below.drew ?_))
  have z1 : w.heap.size ≤ w1.heap.size := b1.size
  go_wp2_with fail
  (with_reducible refine (C2.out _).mono ?_)
  rintro e w2 ⟨rfl, b2⟩
  replace b2 : Below w.heap.size w w2 := by (refine bstep ?_ b2); (repeat' (first | with_reducible exact b1 | with_reducible exact Below.refl _ _ | with_reducible refine Below.setCell ?_ (by first | exact Nat.le_refl _ | (dsimp only; omega)) _ | with_reducible refine bstep ?_ (fresh_below _ _) | with_reducible refine Below.drew ?_))
  have z2 : w.heap.size ≤ w2.heap.size := b2.size
  go_wp2_with fail
  (with_reducible refine (C3.out _).mono ?_)
  rintro e w3 ⟨rfl, rfl⟩
  go_wp2_with fail
  (with_reducible refine (C4.out _).mono ?_)
  rintro e w4 ⟨rfl, b4⟩
  replace b4 : Below w.heap.size w w4 := by (refine bstep ?_ b4); (repeat' (first | with_reducible exact b2 | with_reducible exact Below.refl _ _ | with_reducible refine Below.setCell ?_ (by first | exact Nat.le_refl _ | (dsimp only; omega)) _ | with_reducible refine bstep ?_ (fresh_below _ _) | with_reducible refine Below.drew ?_))
  have z4 : w.heap.size ≤ w4.heap.size := b4.size
  go_wp2_with fail
  (with_reducible refine (C5.out _).mono ?_)
  rintro e w5 ⟨rfl, b5⟩
  replace b5 : Below w.heap.size w w5 := by (refine bstep ?_ b5); (repeat' (first | with_reducible exact b4 | with_reducible exact Below.refl _ _ | with_reducible refine Below.setCell ?_ (by first | exact Nat.le_refl _ | (dsimp only; omega)) _ | with_reducible refine bstep ?_ (fresh_below _ _) | with_reducible refine Below.drew ?_))
  have z5 : w.heap.size ≤ w5.heap.size := b5.size
  go_wp2_with fail
  (with_reducible refine (C6.out _).mono ?_)
  rintro e w6 ⟨rfl, b6⟩
  replace b6 : Below w.heap.size w w6 := by (refine bstep ?_ b6); (repeat' (first | with_reducible exact b5 | with_reducible exact Below.refl _ _ | with_reducible refine Below.setCell ?_ (by first | exact Nat.le_refl _ | (dsimp only; omega)) _ | with_reducible refine bstep ?_ (fresh_below _ _) | with_reducible refine Below.drew ?_))
  have z6 : w.heap.size ≤ w6.heap.size := b6.size
  go_wp2_with fail
  (with_reducible refine (C7.out _).mono ?_)
  rintro e w7 ⟨rfl, b7⟩
  replace b7 : Below w.heap.size w w7 := by (refine bstep ?_ b7); (repeat' (first | with_reducible exact b6 | with_reducible exact Below.refl _ _ | with_reducible refine Below.setCell ?_ (by first | exact Nat.le_refl _ | (dsimp only; omega)) _ | with_reducible refine bstep ?_ (fresh_below _ _) | with_reducible refine Below.drew ?_))
  have z7 : w.heap.size ≤ w7.heap.size := b7.size
  go_wp2_with fail
  go_ret
  exact ⟨rfl, (by (repeat' (first | with_reducible exact b7 | with_reducible exact Below.refl _ _ | with_reducible refine Below.setCell ?_ (by first | exact Nat.le_refl _ | (dsimp only; omega)) _ | with_reducible refine bstep ?_ (fresh_below _ _) | with_reducible refine Below.drew ?_)))⟩
end Go.Proofs.YtjeaknipmdfkdaaGreatDoor
end

section
/- The document's answer for rewrite (porterref09): Head, over this program. -/
set_option linter.unusedVariables false
set_option linter.unusedSimpArgs false
namespace Go.Proofs.YtjeaknipmdfkdaaGreatDoor
open Go.RowKit
attribute [local go_sem] Oper.semAt_some

/-- a header with its TTL one less and other addresses, and with its sum as it was -/
def headMid (H : List UInt8) (a c : Int) : List UInt8 := H.take 8 ++ lifeOf H ++ (H.drop 10).take 2 ++ ipsOf a c ++ H.drop 20

theorem headMid_1 (H : List UInt8) (h : 20 ≤ H.length) (a c : Int) : (H.take 8 ++ ([byt (at_ H 8 - 1)] ++ H.drop 9)).take 12 ++ (ipsOf a c ++ (H.take 8 ++ ([byt (at_ H 8 - 1)] ++ H.drop 9)).drop 20) = headMid H a c := by
  have h8 : (H.take 8).length = 8 := by simp; omega
  unfold headMid lifeOf
  rw [List.take_append, List.drop_append, h8]
  simp only [List.take_take, List.append_assoc]
  congr 1
  simp only [Nat.reduceSub, List.singleton_append, List.take_succ_cons, List.cons_append, List.drop_succ_cons, List.drop_drop, List.nil_append]
  rw [show (H.take 8).drop 20 = [] from by simp; omega]
  simp only [List.nil_append, Nat.reduceAdd]
  rw [show (H.drop 9).take 3 = (H.drop 9).take 1 ++ (H.drop 10).take 2 from by rw [show (3 : Nat) = 1 + 2 from rfl, List.take_add, List.drop_drop]]
  simp
theorem headMid_2 (H : List UInt8) (h : 20 ≤ H.length) (a c n : Int) : (headMid H a c).take 10 ++ (put16 n ++ (headMid H a c).drop 12) = H.take 8 ++ lifeOf H ++ put16 n ++ ipsOf a c ++ H.drop 20 := by
  have h8 : (H.take 8 ++ lifeOf H).length = 10 := by unfold lifeOf; simp; omega
  have h2 : ((H.drop 10).take 2).length = 2 := by simp; omega
  unfold headMid
  generalize H.take 8 ++ lifeOf H = X at h8 ⊢
  generalize (H.drop 10).take 2 = Y at h2 ⊢
  simp only [List.append_assoc]
  rw [List.take_append_of_le_length (by omega), List.take_of_length_le (by omega), List.drop_append, List.drop_of_length_le (by omega), List.nil_append, h8, List.drop_append_of_le_length (by omega), List.drop_of_length_le (by omega), List.nil_append]
theorem headMid_8 (H : List UInt8) (h : 20 ≤ H.length) (a c : Int) : ((headMid H a c).drop 8).take 2 = lifeOf H := by
  have h8 : (H.take 8).length = 8 := by simp; omega
  have h2 : (lifeOf H).length = 2 := by unfold lifeOf; simp; omega
  unfold headMid
  simp only [List.append_assoc]
  rw [List.drop_append_of_le_length (by omega), List.drop_of_length_le (by omega), List.nil_append, List.take_append_of_le_length (by omega), List.take_of_length_le (by omega)]
theorem headMid_12 (H : List UInt8) (h : 20 ≤ H.length) (a c : Int) : ((headMid H a c).drop 12).take 8 = ipsOf a c := by
  have h8 : (H.take 8 ++ lifeOf H ++ (H.drop 10).take 2).length = 12 := by unfold lifeOf; simp; omega
  unfold headMid
  rw [List.append_assoc, List.drop_append_of_le_length (by omega), List.drop_of_length_le (by omega), List.nil_append, List.take_append_of_le_length (by simp [show (ipsOf a c).length = 8 from rfl]), List.take_of_length_le (by simp [show (ipsOf a c).length = 8 from rfl])]
theorem headMid_length (H : List UInt8) (h : 20 ≤ H.length) (a c : Int) : (headMid H a c).length = H.length := by
  unfold headMid lifeOf
  simp [show (ipsOf a c).length = 8 from rfl]
  omega

set_option maxRecDepth 100000 in
set_option maxHeartbeats 4000000 in
theorem rn_Head_w (a b c d : Int) (s : ByteArray) (w : World) (x v n : Int) (t t1 ip t2 pn out : ByteArray) (hs : s.size ≤ 1000) (h20 : 20 ≤ s.size) (ht2 : 20 ≤ t2.size) (ht3 : t2.size ≤ 1000) (e8 : (((s[8]'(by omega)).toNat : Nat) : Int) = x) (wx : IntKind.u8.wrap (x - 1) = x - 1)
    (cv : ∀ (W : World) (g : Nat), W.cell? ⟨g, 0, none⟩ = some (.int .u8 (x - 1)) → (convert 45 9 (.slice (some ⟨g, 0, none⟩) 1 1)).run Tryz.prog W = .ok (.string t) W)
    (f1 : ∀ W, Calls Tryz.prog 38 #[.string s, .int .i64 8, .string t] W (Ret (.string t1) W))
    (f2 : ∀ W, Calls Tryz.prog 76 #[.agg #[.int .u32 a, .int .u16 b, .int .u32 c, .int .u16 d]] W (Ret (.string ip) W))
    (f3 : ∀ W, Calls Tryz.prog 38 #[.string t1, .int .i64 12, .string ip] W (Ret (.string t2) W))
    (f4 : ∀ W, Calls Tryz.prog 60 #[.string s, .int .i64 10] W (Ret (.int .u16 v) W))
    (f5 : ∀ W, Calls Tryz.prog 37 #[.int .u16 v, .string (s.extract 8 10 ++ s.extract 12 20), .string (t2.extract 8 10 ++ t2.extract 12 20)] W (Ret (.int .u16 n) W))
    (f6 : ∀ W, Calls Tryz.prog 39 #[.int .u16 n] W (Ret (.string pn) W))
    (f7 : ∀ W, Calls Tryz.prog 38 #[.string t2, .int .i64 10, .string pn] W (Ret (.string out) W)) :
    Calls Tryz.prog 73 #[.string s, .agg #[.int .u32 a, .int .u16 b, .int .u32 c, .int .u16 d]] w (Ret (.string out) w) := by
  have i1 : (20 : Int) ≤ (s.size : Int) := by omega
  have i2 : (8 : Int) < (s.size : Int) := by omega
  have i3 : (10 : Int) ≤ (s.size : Int) := by omega
  have i4 : 8 < s.size := by omega
  have j1 : (20 : Int) ≤ (t2.size : Int) := by omega
  have j3 : (10 : Int) ≤ (t2.size : Int) := by omega
  have k1 : (s.extract 8 10 ++ s.extract 12 20).size ≤ 1000 := by rw [ByteArray.size_append, ByteArray.size_extract, ByteArray.size_extract]; omega
  have k2 : (t2.extract 8 10 ++ t2.extract 12 20).size ≤ 1000 := by rw [ByteArray.size_append, ByteArray.size_extract, ByteArray.size_extract]; omega
  have F1 := hide f1; have F2 := hide f2; have F3 := hide f3; have F4 := hide f4; have F5 := hide f5; have F6 := hide f6; have F7 := hide f7
  clear f1 f2 f3 f4 f5 f6 f7
  go_enter Tryz.func73, Tryz.ntmps73
  have d0 := Cells.new w #[.int .u32 a, .int .u16 b, .int .u32 c, .int .u16 d] 39
  go_wp2_with fail
  (with_reducible refine (F1.out _).mono ?_)
  rintro e w1 ⟨rfl, b1⟩
  replace d0 := Cells.up d0 (by (repeat' (first | with_reducible exact Below.refl _ _ | with_reducible refine bstep ?_ (fresh_below _ _) | with_reducible refine Below.drew ?_))) b1
  replace b1 : Below w.heap.size w w1 := by (refine bstep ?_ b1); (repeat' (first | with_reducible exact Below.refl _ _ | with_reducible refine Below.setCell ?_ (by first | exact Nat.le_refl _ | (dsimp only; omega)) _ | with_reducible refine bstep ?_ (fresh_below _ _) | with_reducible refine Below.drew ?_))
  have z1 : w.heap.size ≤ w1.heap.size := b1.size
  obtain ⟨xd0_0, xd0_1, xd0_2, xd0_3⟩ := d0.x4
  go_wp2_with fail
  (with_reducible refine (F2.out _).mono ?_)
  rintro e w2 ⟨rfl, b2⟩
  replace b2 : Below w.heap.size w w2 := by (refine bstep ?_ b2); (repeat' (first | with_reducible exact b1 | with_reducible exact Below.refl _ _ | with_reducible refine Below.setCell ?_ (by first | exact Nat.le_refl _ | (dsimp only; omega)) _ | with_reducible refine bstep ?_ (fresh_below _ _) | with_reducible refine Below.drew ?_))
  have z2 : w.heap.size ≤ w2.heap.size := b2.size
  go_wp2_with fail
  (with_reducible refine (F3.out _).mono ?_)
  rintro e w3 ⟨rfl, b3⟩
  replace b3 : Below w.heap.size w w3 := by (refine bstep ?_ b3); (repeat' (first | with_reducible exact b2 | with_reducible exact Below.refl _ _ | with_reducible refine Below.setCell ?_ (by first | exact Nat.le_refl _ | (dsimp only; omega)) _ | with_reducible refine bstep ?_ (fresh_below _ _) | with_reducible refine Below.drew ?_))
  have z3 : w.heap.size ≤ w3.heap.size := b3.size
  go_wp2_with fail
  have SK := hide (fun (zX zY : World) (zh : (Below w.heap.size w zX ∧ True)) (zb : Below zX.heap.size zX zY) => (show (Below w.heap.size w zY ∧ True) from ⟨bstep zh.1 zb, trivial⟩))
  have FS := hide (fun (zX : World) (zh : (Below w.heap.size w zX ∧ True)) => zh.1)
  have GS := hide (fun (zX : World) (zh : (Below w.heap.size w zX ∧ True)) => zh)
  have hS0 : (Below w.heap.size w w3 ∧ True) := ⟨(by (repeat' (first | with_reducible exact b3 | with_reducible exact Below.refl _ _ | with_reducible refine Below.setCell ?_ (by first | exact Nat.le_refl _ | (dsimp only; omega)) _ | with_reducible refine bstep ?_ (fresh_below _ _) | with_reducible refine Below.drew ?_))), trivial⟩
  go_region_held_law (fun w' => (Below w.heap.size w w' ∧ True)) (first | assumption | exact SK.out _ _ hS0 (Below.refl _ _).drew | exact SK.out _ _ hS0 (fresh_below _ _).drew | exact SK.out _ _ (by assumption) (fresh_below _ _) | (refine SK.out _ _ ?_ (by assumption); assumption))
    (first | (go_at_call 60; (with_reducible refine (F4.out _).mono ?_); rintro e wq ⟨rfl, bq⟩) | (go_at_call 37; (with_reducible refine (F5.out _).mono ?_); rintro e wq ⟨rfl, bq⟩))
  all_goals
    have gb : Below w.heap.size w wq := (by first | exact FS.out _ (by assumption) | exact bstep (FS.out _ (by assumption)) (fresh_below _ _) | exact bstep (bstep (FS.out _ (by assumption)) (fresh_below _ _)) (fresh_below _ _))
    clear SK FS GS hS0
    obtain ⟨wA, rfl⟩ : ∃ W : World, W = wq := ⟨_, rfl⟩
    have bA := gb
    go_wp2_with fail
    (with_reducible refine (F6.out _).mono ?_)
    rintro e w6 ⟨rfl, b6⟩
    replace b6 : Below w.heap.size w w6 := by (refine bstep ?_ b6); (repeat' (first | with_reducible exact bA | with_reducible exact Below.refl _ _ | with_reducible refine Below.setCell ?_ (by first | exact Nat.le_refl _ | (dsimp only; omega)) _ | with_reducible refine bstep ?_ (fresh_below _ _) | with_reducible refine Below.drew ?_))
    have z6 : w.heap.size ≤ w6.heap.size := b6.size
    go_wp2_with fail
    (with_reducible refine (F7.out _).mono ?_)
    rintro e w7 ⟨rfl, b7⟩
    replace b7 : Below w.heap.size w w7 := by (refine bstep ?_ b7); (repeat' (first | with_reducible exact b6 | with_reducible exact Below.refl _ _ | with_reducible refine Below.setCell ?_ (by first | exact Nat.le_refl _ | (dsimp only; omega)) _ | with_reducible refine bstep ?_ (fresh_below _ _) | with_reducible refine Below.drew ?_))
    have z7 : w.heap.size ≤ w7.heap.size := b7.size
    go_wp2_with fail
    go_ret
    exact ⟨rfl, (by (repeat' (first | with_reducible exact b7 | with_reducible exact Below.refl _ _ | with_reducible refine Below.setCell ?_ (by first | exact Nat.le_refl _ | (dsimp only; omega)) _ | with_reducible refine bstep ?_ (fresh_below _ _) | with_reducible refine Below.drew ?_)))⟩
end Go.Proofs.YtjeaknipmdfkdaaGreatDoor
end

section
/- The document's answer for rewrite (porterref09): Head and Ports, over this program. -/
set_option linter.unusedVariables false
set_option linter.unusedSimpArgs false
namespace Go.Proofs.YtjeaknipmdfkdaaGreatDoor
open Go.RowKit
attribute [local go_sem] Oper.semAt_some

theorem rn_Head (a b c d : Int) (s : ByteArray) (w : World) (ha : 0 ≤ a ∧ a ≤ 4294967295) (hc : 0 ≤ c ∧ c ≤ 4294967295) (hs : s.size ≤ 1000) (h20 : 20 ≤ s.size) (h1 : 1 ≤ at_ (L s) 8) :
    Calls Tryz.prog 73 #[.string s, .agg #[.int .u32 a, .int .u16 b, .int .u32 c, .int .u16 d]] w (Ret (.string (S (headNew (L s) a c))) w) := by
  have hl : 20 ≤ (L s).length := by rw [L_length]; exact h20
  have hb8 := at_bd (L s) 8
  have e8 : (((s[8]'(by omega)).toNat : Nat) : Int) = at_ (L s) 8 := by rw [getElem_L s 8 (by omega)]; rfl
  have hnb := updates_bd (a := (((L s).drop 8).take 2 ++ ((L s).drop 12).take 8)) (b := (lifeOf (L s) ++ ipsOf a c)) (be16_bd (L s) 10)
  have hipl : (ipsOf a c).length = 8 := rfl
  have wx : IntKind.u8.wrap (at_ (L s) 8 - 1) = at_ (L s) 8 - 1 := by rw [IntKind.wrap_u8]; omega
  have cv : ∀ (W : World) (g : Nat), W.cell? ⟨g, 0, none⟩ = some (.int .u8 (at_ (L s) 8 - 1)) → (convert 45 9 (.slice (some ⟨g, 0, none⟩) 1 1)).run Tryz.prog W = .ok (.string (S [byt (at_ (L s) 8 - 1)])) W := fun W g h0 => by
    exact run_convert_bytes_arg (P := Tryz.prog) W 45 5 Tryz.underlying45 Tryz.underlying5 g 0 1 1 [at_ (L s) 8 - 1] rfl
      (fun i hi => by
        match i, hi with
        | 0, _ => exact h0) 9 Tryz.underlying9
  have hm1 : (L s).take 8 ++ (L (S [byt (at_ (L s) 8 - 1)]) ++ (L s).drop (8 + (S [byt (at_ (L s) 8 - 1)]).size)) = (L s).take 8 ++ ([byt (at_ (L s) 8 - 1)] ++ (L s).drop 9) := by rw [L_S]; rfl
  have f1 := fun W => rn_With s 8 (S [byt (at_ (L s) 8 - 1)]) W (by omega) (by rw [S_size]; simp; omega)
  rw [hm1] at f1
  have hz1 : (S ((L s).take 8 ++ ([byt (at_ (L s) 8 - 1)] ++ (L s).drop 9))).size = s.size := by rw [S_size]; simp [L_length]; omega
  have f2 := fun W => rn_Pair a b c d W ha hc
  have f3 := fun W => rn_With (S ((L s).take 8 ++ ([byt (at_ (L s) 8 - 1)] ++ (L s).drop 9))) 12 (S (ipsOf a c)) W (by omega) (by rw [S_size (ipsOf a c), hipl]; omega)
  rw [show (12 : Nat) + (S (ipsOf a c)).size = 20 from by rw [S_size, hipl], L_S, L_S, headMid_1 (L s) hl] at f3
  have hz2 : (S (headMid (L s) a c)).size = s.size := by rw [S_size, headMid_length _ hl, L_length]
  have f4 := fun W => rn_Word s 10 W (by omega) (by omega)
  have hp1 : L (s.extract 8 10 ++ s.extract 12 20) = ((L s).drop 8).take 2 ++ ((L s).drop 12).take 8 := by rw [L_append, L_extract, L_extract]
  have hp2 : L ((S (headMid (L s) a c)).extract 8 10 ++ (S (headMid (L s) a c)).extract 12 20) = lifeOf (L s) ++ ipsOf a c := by
    rw [L_append, L_extract, L_extract, L_S, headMid_8 _ hl, headMid_12 _ hl]
  have f5 := fun W => r_Updates (be16 (L s) 10) (s.extract 8 10 ++ s.extract 12 20) ((S (headMid (L s) a c)).extract 8 10 ++ (S (headMid (L s) a c)).extract 12 20) W (be16_bd _ _) (by rw [ByteArray.size_append, ByteArray.size_extract, ByteArray.size_extract]; omega) (by rw [ByteArray.size_append, ByteArray.size_extract, ByteArray.size_extract]; omega)
  rw [hp1, hp2] at f5
  have f6 := fun W => r_Put16 _ W hnb.1 hnb.2
  have f7 := fun W => rn_With (S (headMid (L s) a c)) 10 (S (put16 (updates (be16 (L s) 10) (((L s).drop 8).take 2 ++ ((L s).drop 12).take 8) (lifeOf (L s) ++ ipsOf a c)))) W (by omega) (by rw [S_size (put16 _), put16_length]; omega)
  rw [show (10 : Nat) + (S (put16 (updates (be16 (L s) 10) (((L s).drop 8).take 2 ++ ((L s).drop 12).take 8) (lifeOf (L s) ++ ipsOf a c)))).size = 12 from by rw [S_size, put16_length], L_S, L_S, headMid_2 (L s) hl] at f7
  exact rn_Head_w a b c d s w _ _ _ _ _ _ _ _ _ hs h20 (by omega) (by omega) e8 wx cv f1 f2 f3 f4 f5 f6 f7
end Go.Proofs.YtjeaknipmdfkdaaGreatDoor
end
