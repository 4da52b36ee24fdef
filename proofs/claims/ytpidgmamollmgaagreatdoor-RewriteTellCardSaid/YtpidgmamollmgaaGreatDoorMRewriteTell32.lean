/- Several texts of this claim, one behind the other. -/
import Derived.Test.YtpidgmamollmgaaGreatDoorMRewriteTell31
import Derived.Test.YtpidgmamollmgaaGreatDoorMRewriteTell7
import Derived.Test.YtpidgmamollmgaaGreatDoorMRewriteTell8

section
/- The document's answer for rewrite (porterref09): Head, over this program. -/
set_option linter.unusedVariables false
set_option linter.unusedSimpArgs false
namespace Go.Proofs.YtpidgmamollmgaaGreatDoor
open Go.RowKit
attribute [local go_sem] Oper.semAt_some

/-- a header with its TTL one less and other addresses, and with its sum as it was -/
def headMid (H : List UInt8) (a c : Int) : List UInt8 := H.take 8 ++ lifeOf H ++ (H.drop 10).take 2 ++ ipsOf a c ++ H.drop 20

theorem headMid_1 (H : List UInt8) (h : 20 ≤ H.length) (a c : Int) : (H.take 8 ++ ([byt (at_ H 8 - 1)] ++ H.drop 9)).take 12 ++ (ipsOf a c ++ (H.take 8 ++ ([byt (at_ H 8 - 1)] ++ H.drop 9)).drop 20) = headMid H a c := by
  have h8 : (H.take 8).length = 8 := by simp; omega
  unfold headMid lifeOf
  rw [List.take_append, List.drop_append, h8]
  simp only [List.take_take, List.append_assoc]
  congr 1
  simp only [Nat.reduceSub, List.singleton_append, List.take_succ_cons, List.cons_append, List.drop_succ_cons, List.drop_drop, List.nil_append]
  rw [show (H.take 8).drop 20 = [] from by simp; omega]
  simp only [List.nil_append, Nat.reduceAdd]
  rw [show (H.drop 9).take 3 = (H.drop 9).take 1 ++ (H.drop 10).take 2 from by rw [show (3 : Nat) = 1 + 2 from rfl, List.take_add, List.drop_drop]]
  simp
theorem headMid_2 (H : List UInt8) (h : 20 ≤ H.length) (a c n : Int) : (headMid H a c).take 10 ++ (put16 n ++ (headMid H a c).drop 12) = H.take 8 ++ lifeOf H ++ put16 n ++ ipsOf a c ++ H.drop 20 := by
  have h8 : (H.take 8 ++ lifeOf H).length = 10 := by unfold lifeOf; simp; omega
  have h2 : ((H.drop 10).take 2).length = 2 := by simp; omega
  unfold headMid
  generalize H.take 8 ++ lifeOf H = X at h8 ⊢
  generalize (H.drop 10).take 2 = Y at h2 ⊢
  simp only [List.append_assoc]
  rw [List.take_append_of_le_length (by omega), List.take_of_length_le (by omega), List.drop_append, List.drop_of_length_le (by omega), List.nil_append, h8, List.drop_append_of_le_length (by omega), List.drop_of_length_le (by omega), List.nil_append]
theorem headMid_8 (H : List UInt8) (h : 20 ≤ H.length) (a c : Int) : ((headMid H a c).drop 8).take 2 = lifeOf H := by
  have h8 : (H.take 8).length = 8 := by simp; omega
  have h2 : (lifeOf H).length = 2 := by unfold lifeOf; simp; omega
  unfold headMid
  simp only [List.append_assoc]
  rw [List.drop_append_of_le_length (by omega), List.drop_of_length_le (by omega), List.nil_append, List.take_append_of_le_length (by omega), List.take_of_length_le (by omega)]
theorem headMid_12 (H : List UInt8) (h : 20 ≤ H.length) (a c : Int) : ((headMid H a c).drop 12).take 8 = ipsOf a c := by
  have h8 : (H.take 8 ++ lifeOf H ++ (H.drop 10).take 2).length = 12 := by unfold lifeOf; simp; omega
  unfold headMid
  rw [List.append_assoc, List.drop_append_of_le_length (by omega), List.drop_of_length_le (by omega), List.nil_append, List.take_append_of_le_length (by simp [show (ipsOf a c).length = 8 from rfl]), List.take_of_length_le (by simp [show (ipsOf a c).length = 8 from rfl])]
theorem headMid_length (H : List UInt8) (h : 20 ≤ H.length) (a c : Int) : (headMid H a c).length = H.length := by
  unfold headMid lifeOf
  simp [show (ipsOf a c).length = 8 from rfl]
  omega

set_option maxRecDepth 100000 in
set_option maxHeartbeats 4000000 in
theorem rn_Head_w (a b c d : Int) (s : ByteArray) (w : World) (x v n : Int) (t t1 ip t2 pn out : ByteArray) (hs : s.size ≤ 1000) (h20 : 20 ≤ s.size) (ht2 : 20 ≤ t2.size) (ht3 : t2.size ≤ 1000) (e8 : (((s[8]'(by omega)).toNat : Nat) : Int) = x) (wx : IntKind.u8.wrap (x - 1) = x - 1)
    (cv : ∀ (W : World) (g : Nat), W.cell? ⟨g, 0, none⟩ = some (.int .u8 (x - 1)) → (convert 86 9 (.slice (some ⟨g, 0, none⟩) 1 1)).run Tryz.prog W = .ok (.string t) W)
    (f1 : ∀ W, Calls Tryz.prog 52 #[.string s, .int .i64 8, .string t] W (Ret (.string t1) W))
    (f2 : ∀ W, Calls Tryz.prog 53 #[.agg #[.int .u32 a, .int .u16 b, .int .u32 c, .int .u16 d]] W (Ret (.string ip) W))
    (f3 : ∀ W, Calls Tryz.prog 52 #[.string t1, .int .i64 12, .string ip] W (Ret (.string t2) W))
    (f4 : ∀ W, Calls Tryz.prog 55 #[.string s, .int .i64 10] W (Ret (.int .u16 v) W))
    (f5 : ∀ W, Calls Tryz.prog 54 #[.int .u16 v, .string (s.extract 8 10 ++ s.extract 12 20), .string (t2.extract 8 10 ++ t2.extract 12 20)] W (Ret (.int .u16 n) W))
    (f6 : ∀ W, Calls Tryz.prog 56 #[.int .u16 n] W (Ret (.string pn) W))
    (f7 : ∀ W, Calls Tryz.prog 52 #[.string t2, .int .i64 10, .string pn] W (Ret (.string out) W)) :
    Calls Tryz.prog 19 #[.string s, .agg #[.int .u32 a, .int .u16 b, .int .u32 c, .int .u16 d]] w (Ret (.string out) w) := by
  have i1 : (20 : Int) ≤ (s.size : Int) := by omega
  have i2 : (8 : Int) < (s.size : Int) := by omega
  have i3 : (10 : Int) ≤ (s.size : Int) := by omega
  have i4 : 8 < s.size := by omega
  have j1 : (20 : Int) ≤ (t2.size : Int) := by omega
  have j3 : (10 : Int) ≤ (t2.size : Int) := by omega
  have k1 : (s.extract 8 10 ++ s.extract 12 20).size ≤ 1000 := by rw [ByteArray.size_append, ByteArray.size_extract, ByteArray.size_extract]; omega
  have k2 : (t2.extract 8 10 ++ t2.extract 12 20).size ≤ 1000 := by rw [ByteArray.size_append, ByteArray.size_extract, ByteArray.size_extract]; omega
  have F1 := hide f1; have F2 := hide f2; have F3 := hide f3; have F4 := hide f4; have F5 := hide f5; have F6 := hide f6; have F7 := hide f7
  clear f1 f2 f3 f4 f5 f6 f7
  go_enter Tryz.func19, Tryz.ntmps19
  have d0 := Cells.new w #[.int .u32 a, .int .u16 b, .int .u32 c, .int .u16 d] 33
  go_wp2_with fail
  (with_reducible refine (F1.out _).mono ?_)
  rintro e w1 ⟨rfl, b1⟩
  replace d0 := Cells.up d0 (by (repeat' (first | with_reducible exact Below.refl _ _ | with_reducible refine bstep ?_ (fresh_below _ _) | with_reducible refine Below.drew ?_))) b1
  replace b1 : Below w.heap.size w w1 := by (refine bstep ?_ b1); (repeat' (first | with_reducible exact Below.refl _ _ | with_reducible refine Below.setCell ?_ (by first | exact Nat.le_refl _ | (dsimp only; omega)) _ | with_reducible refine bstep ?_ (fresh_below _ _) | with_reducible refine Below.drew ?_))
  have z1 : w.heap.size ≤ w1.heap.size := b1.size
  have xd0_0 : w1.cell? ⟨w.heap.size, 0, none⟩ = some (.int .u32 a) := d0.at_ 0
  have xd0_1 : w1.cell? ⟨w.heap.size, 1, none⟩ = some (.int .u16 b) := d0.at_ 1
  have xd0_2 : w1.cell? ⟨w.heap.size, 2, none⟩ = some (.int .u32 c) := d0.at_ 2
  have xd0_3 : w1.cell? ⟨w.heap.size, 3, none⟩ = some (.int .u16 d) := d0.at_ 3
  go_wp2_with fail
  (with_reducible refine (F2.out _).mono ?_)
  rintro e w2 ⟨rfl, b2⟩
  replace b2 : Below w.heap.size w w2 := by (refine bstep ?_ b2); (repeat' (first | with_reducible exact b1 | with_reducible exact Below.refl _ _ | with_reducible refine Below.setCell ?_ (by first | exact Nat.le_refl _ | (dsimp only; omega)) _ | with_reducible refine bstep ?_ (fresh_below _ _) | with_reducible refine Below.drew ?_))
  have z2 : w.heap.size ≤ w2.heap.size := b2.size
  go_wp2_with fail
  (with_reducible refine (F3.out _).mono ?_)
  rintro e w3 ⟨rfl, b3⟩
  replace b3 : Below w.heap.size w w3 := by (refine bstep ?_ b3); (repeat' (first | with_reducible exact b2 | with_reducible exact Below.refl _ _ | with_reducible refine Below.setCell ?_ (by first | exact Nat.le_refl _ | (dsimp only; omega)) _ | with_reducible refine bstep ?_ (fresh_below _ _) | with_reducible refine Below.drew ?_))
  have z3 : w.heap.size ≤ w3.heap.size := b3.size
  go_wp2_with fail
  have SK := hide (fun (zX zY : World) (zh : (Below w.heap.size w zX ∧ True)) (zb : Below zX.heap.size zX zY) => (show (Below w.heap.size w zY ∧ True) from ⟨bstep zh.1 zb, trivial⟩))
  have FS := hide (fun (zX : World) (zh : (Below w.heap.size w zX ∧ True)) => zh.1)
  have GS := hide (fun (zX : World) (zh : (Below w.heap.size w zX ∧ True)) => zh)
  have hS0 : (Below w.heap.size w w3 ∧ True) := ⟨(by (repeat' (first | with_reducible exact b3 | with_reducible exact Below.refl _ _ | with_reducible refine Below.setCell ?_ (by first | exact Nat.le_refl _ | (dsimp only; omega)) _ | with_reducible refine bstep ?_ (fresh_below _ _) | with_reducible refine Below.drew ?_))), trivial⟩
  go_region_held_law (fun w' => (Below w.heap.size w w' ∧ True)) (first | assumption | exact SK.out _ _ hS0 (Below.refl _ _).drew | exact SK.out _ _ hS0 (fresh_below _ _).drew | exact SK.out _ _ (by assumption) (fresh_below _ _) | (refine SK.out _ _ ?_ (by assumption); assumption))
    (first | (go_at_call 55; (with_reducible refine (F4.out _).mono ?_); rintro e wq ⟨rfl, bq⟩) | (go_at_call 54; (with_reducible refine (F5.out _).mono ?_); rintro e wq ⟨rfl, bq⟩))
  all_goals
    have gb : Below w.heap.size w wq := (by first | exact FS.out _ (by assumption) | exact bstep (FS.out _ (by assumption)) (fresh_below _ _) | exact bstep (bstep (FS.out _ (by assumption)) (fresh_below _ _)) (fresh_below _ _))
    clear SK FS GS hS0
    obtain ⟨wA, rfl⟩ : ∃ W : World, W = wq := ⟨_, rfl⟩
    have bA := gb
    go_wp2_with fail
    (with_reducible refine (F6.out _).mono ?_)
    rintro e w6 ⟨rfl, b6⟩
    replace b6 : Below w.heap.size w w6 := by (refine bstep ?_ b6); (repeat' (first | with_reducible exact bA | with_reducible exact Below.refl _ _ | with_reducible refine Below.setCell ?_ (by first | exact Nat.le_refl _ | (dsimp only; omega)) _ | with_reducible refine bstep ?_ (fresh_below _ _) | with_reducible refine Below.drew ?_))
    have z6 : w.heap.size ≤ w6.heap.size := b6.size
    go_wp2_with fail
    (with_reducible refine (F7.out _).mono ?_)
    rintro e w7 ⟨rfl, b7⟩
    replace b7 : Below w.heap.size w w7 := by (refine bstep ?_ b7); (repeat' (first | with_reducible exact b6 | with_reducible exact Below.refl _ _ | with_reducible refine Below.setCell ?_ (by first | exact Nat.le_refl _ | (dsimp only; omega)) _ | with_reducible refine bstep ?_ (fresh_below _ _) | with_reducible refine Below.drew ?_))
    have z7 : w.heap.size ≤ w7.heap.size := b7.size
    go_wp2_with fail
    go_ret
    exact ⟨rfl, (by (repeat' (first | with_reducible exact b7 | with_reducible exact Below.refl _ _ | with_reducible refine Below.setCell ?_ (by first | exact Nat.le_refl _ | (dsimp only; omega)) _ | with_reducible refine bstep ?_ (fresh_below _ _) | with_reducible refine Below.drew ?_)))⟩
end Go.Proofs.YtpidgmamollmgaaGreatDoor
end

section
/- The document's answer for rewrite (porterref09): Head and Ports, over this program. -/
set_option linter.unusedVariables false
set_option linter.unusedSimpArgs false
namespace Go.Proofs.YtpidgmamollmgaaGreatDoor
open Go.RowKit
attribute [local go_sem] Oper.semAt_some

theorem rn_Head (a b c d : Int) (s : ByteArray) (w : World) (ha : 0 ≤ a ∧ a ≤ 4294967295) (hc : 0 ≤ c ∧ c ≤ 4294967295) (hs : s.size ≤ 1000) (h20 : 20 ≤ s.size) (h1 : 1 ≤ at_ (L s) 8) :
    Calls Tryz.prog 19 #[.string s, .agg #[.int .u32 a, .int .u16 b, .int .u32 c, .int .u16 d]] w (Ret (.string (S (headNew (L s) a c))) w) := by
  have hl : 20 ≤ (L s).length := by rw [L_length]; exact h20
  have hb8 := at_bd (L s) 8
  have e8 : (((s[8]'(by omega)).toNat : Nat) : Int) = at_ (L s) 8 := by rw [getElem_L s 8 (by omega)]; rfl
  have hnb := updates_bd (a := (((L s).drop 8).take 2 ++ ((L s).drop 12).take 8)) (b := (lifeOf (L s) ++ ipsOf a c)) (be16_bd (L s) 10)
  have hipl : (ipsOf a c).length = 8 := rfl
  have wx : IntKind.u8.wrap (at_ (L s) 8 - 1) = at_ (L s) 8 - 1 := by rw [IntKind.wrap_u8]; omega
  have cv : ∀ (W : World) (g : Nat), W.cell? ⟨g, 0, none⟩ = some (.int .u8 (at_ (L s) 8 - 1)) → (convert 86 9 (.slice (some ⟨g, 0, none⟩) 1 1)).run Tryz.prog W = .ok (.string (S [byt (at_ (L s) 8 - 1)])) W := fun W g h0 => by
    exact run_convert_bytes_arg (P := Tryz.prog) W 86 5 Tryz.underlying86 Tryz.underlying5 g 0 1 1 [at_ (L s) 8 - 1] rfl
      (fun i hi => by
        match i, hi with
        | 0, _ => exact h0) 9 Tryz.underlying9
  have hm1 : (L s).take 8 ++ (L (S [byt (at_ (L s) 8 - 1)]) ++ (L s).drop (8 + (S [byt (at_ (L s) 8 - 1)]).size)) = (L s).take 8 ++ ([byt (at_ (L s) 8 - 1)] ++ (L s).drop 9) := by rw [L_S]; rfl
  have f1 := fun W => rn_With s 8 (S [byt (at_ (L s) 8 - 1)]) W (by omega) (by rw [S_size]; simp; omega)
  rw [hm1] at f1
  have hz1 : (S ((L s).take 8 ++ ([byt (at_ (L s) 8 - 1)] ++ (L s).drop 9))).size = s.size := by rw [S_size]; simp [L_length]; omega
  have f2 := fun W => rn_Pair a b c d W ha hc
  have f3 := fun W => rn_With (S ((L s).take 8 ++ ([byt (at_ (L s) 8 - 1)] ++ (L s).drop 9))) 12 (S (ipsOf a c)) W (by omega) (by rw [S_size (ipsOf a c), hipl]; omega)
  rw [show (12 : Nat) + (S (ipsOf a c)).size = 20 from by rw [S_size, hipl], L_S, L_S, headMid_1 (L s) hl] at f3
  have hz2 : (S (headMid (L s) a c)).size = s.size := by rw [S_size, headMid_length _ hl, L_length]
  have f4 := fun W => rn_Word s 10 W (by omega) (by omega)
  have hp1 : L (s.extract 8 10 ++ s.extract 12 20) = ((L s).drop 8).take 2 ++ ((L s).drop 12).take 8 := by rw [L_append, L_extract, L_extract]
  have hp2 : L ((S (headMid (L s) a c)).extract 8 10 ++ (S (headMid (L s) a c)).extract 12 20) = lifeOf (L s) ++ ipsOf a c := by
    rw [L_append, L_extract, L_extract, L_S, headMid_8 _ hl, headMid_12 _ hl]
  have f5 := fun W => r_Updates (be16 (L s) 10) (s.extract 8 10 ++ s.extract 12 20) ((S (headMid (L s) a c)).extract 8 10 ++ (S (headMid (L s) a c)).extract 12 20) W (be16_bd _ _) (by rw [ByteArray.size_append, ByteArray.size_extract, ByteArray.size_extract]; omega) (by rw [ByteArray.size_append, ByteArray.size_extract, ByteArray.size_extract]; omega)
  rw [hp1, hp2] at f5
  have f6 := fun W => r_Put16 _ W hnb.1 hnb.2
  have f7 := fun W => rn_With (S (headMid (L s) a c)) 10 (S (put16 (updates (be16 (L s) 10) (((L s).drop 8).take 2 ++ ((L s).drop 12).take 8) (lifeOf (L s) ++ ipsOf a c)))) W (by omega) (by rw [S_size (put16 _), put16_length]; omega)
  rw [show (10 : Nat) + (S (put16 (updates (be16 (L s) 10) (((L s).drop 8).take 2 ++ ((L s).drop 12).take 8) (lifeOf (L s) ++ ipsOf a c)))).size = 12 from by rw [S_size, put16_length], L_S, L_S, headMid_2 (L s) hl] at f7
  exact rn_Head_w a b c d s w _ _ _ _ _ _ _ _ _ hs h20 (by omega) (by omega) e8 wx cv f1 f2 f3 f4 f5 f6 f7
end Go.Proofs.YtpidgmamollmgaaGreatDoor
end
