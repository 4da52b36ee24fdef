/- icmp.Put over this program, and the chapter's examples. -/
import Derived.Test.YthmedjlecikbiaaDoorIcmpP
import Derived.Test.YthmedjlecikbiaaDoorIcmpW
set_option linter.unusedVariables false
namespace Go.Proofs.YthmedjlecikbiaaDoor
open Go.RowKit Go.Maps
attribute [local go_sem] Oper.semAt_some

set_option maxHeartbeats 2000000 in
theorem i_Put_yes (m : Msg) (w : World) (ho : m.Ok) (h : m.r.size = 4) :
    Calls Tryd.prog 15 #[.agg #[.int .u8 m.t, .int .u8 m.c, .int .u16 m.n, .string m.r, .string m.d]] w (Ret (.tuple #[.string (S (msgPut m)), .int .i64 0]) w) := by
  obtain ⟨⟨t0, t1⟩, ⟨c0, c1⟩, ⟨n0, n1⟩, hr, hd⟩ := ho
  obtain ⟨t, c, n, r, d⟩ := m
  simp only at t0 t1 c0 c1 n0 n1 hr hd h ⊢
  have hl : ∀ x ∈ [t * 256 + c, n], 0 ≤ x ∧ x ≤ 65535 := by
    intro x hx
    simp only [List.mem_cons, List.not_mem_nil, or_false] at hx
    rcases hx with rfl | rfl <;> omega
  have f1 := fun (M : Obj) => Word (some ⟨w.heap.size + 1, 0, none⟩) 2 2 [t * 256 + c, n] (((w.alloc M).alloc (.cells #[.int .u16 (t * 256 + c), .int .u16 n] 25)).drew) (show Row _ _ _ _ _ from Row.freshAt (w.alloc M) #[.int .u16 (t * 256 + c), .int .u16 n] 25 (w.heap.size + 1) 2 _ (by simp) rfl rfl) hl (by omega)
  have e1 : bits .or .u16 (t * 256) c = t * 256 + c := or16 t c t0 t1 c0 c1
  have e3 := or16w t c t0 t1 c0 c1
  have hend : S (putW [t * 256 + c, n]) ++ r ++ d = S (msgPut ⟨t, c, n, r, d⟩) := by
    apply L_inj
    rw [L_append, L_append, L_S, L_S]
    unfold msgPut
    have e2 : putW [t * 256 + c, n] = [byt t, byt c] ++ put16 n := by
      show [byt ((t * 256 + c) / 256), byt (t * 256 + c)] ++ (put16 n ++ []) = _
      rw [List.append_nil, show (t * 256 + c) / 256 = t from by omega, show byt (t * 256 + c) = byt c from UInt8.toNat_inj.1 (by rw [byt_toNat, byt_toNat]; omega)]
    rw [e2]
  obtain ⟨s, hs⟩ : ∃ s, s = S (putW [t * 256 + c, n]) := ⟨_, rfl⟩
  have z1 : s.size = 4 := by rw [hs]; rfl
  rw [← hs] at f1 hend
  have y2 : (s ++ r).size = 8 := by rw [ByteArray.size_append, z1, h]
  have q1 : ((r.size : Int) == 4) = true := by simp; omega
  have q2 : ((r.size : Int) != 4) = false := by simp; omega
  have hd2 : (d.size : Int) ≤ 140737488351232 := by omega
  have F1 := hide f1; have HE := hide hend; have HR := hide h
  clear f1 hend hs hl
  go_enter Tryd.func15, Tryd.ntmps15
  have d0 := Cells.new w #[.int .u8 t, .int .u8 c, .int .u16 n, .string r, .string d] 29
  go_wp2_with fail
  have SK := hide (fun (zX zY : World) (zh : (Below w.heap.size w zX ∧ zX.cell? ⟨w.heap.size, 0, none⟩ = some (.int .u8 t) ∧ zX.cell? ⟨w.heap.size, 1, none⟩ = some (.int .u8 c) ∧ zX.cell? ⟨w.heap.size, 2, none⟩ = some (.int .u16 n) ∧ zX.cell? ⟨w.heap.size, 3, none⟩ = some (.string r) ∧ zX.cell? ⟨w.heap.size, 4, none⟩ = some (.string d) ∧ True)) (zb : Below zX.heap.size zX zY) => (show (Below w.heap.size w zY ∧ zY.cell? ⟨w.heap.size, 0, none⟩ = some (.int .u8 t) ∧ zY.cell? ⟨w.heap.size, 1, none⟩ = some (.int .u8 c) ∧ zY.cell? ⟨w.heap.size, 2, none⟩ = some (.int .u16 n) ∧ zY.cell? ⟨w.heap.size, 3, none⟩ = some (.string r) ∧ zY.cell? ⟨w.heap.size, 4, none⟩ = some (.string d) ∧ True) from ⟨bstep zh.1 zb, cellAt zb zh.2.1, cellAt zb zh.2.2.1, cellAt zb zh.2.2.2.1, cellAt zb zh.2.2.2.2.1, cellAt zb zh.2.2.2.2.2.1, trivial⟩))
  have FS := hide (fun (zX : World) (zh : (Below w.heap.size w zX ∧ zX.cell? ⟨w.heap.size, 0, none⟩ = some (.int .u8 t) ∧ zX.cell? ⟨w.heap.size, 1, none⟩ = some (.int .u8 c) ∧ zX.cell? ⟨w.heap.size, 2, none⟩ = some (.int .u16 n) ∧ zX.cell? ⟨w.heap.size, 3, none⟩ = some (.string r) ∧ zX.cell? ⟨w.heap.size, 4, none⟩ = some (.string d) ∧ True)) => zh.1)
  have GS := hide (fun (zX : World) (zh : (Below w.heap.size w zX ∧ zX.cell? ⟨w.heap.size, 0, none⟩ = some (.int .u8 t) ∧ zX.cell? ⟨w.heap.size, 1, none⟩ = some (.int .u8 c) ∧ zX.cell? ⟨w.heap.size, 2, none⟩ = some (.int .u16 n) ∧ zX.cell? ⟨w.heap.size, 3, none⟩ = some (.string r) ∧ zX.cell? ⟨w.heap.size, 4, none⟩ = some (.string d) ∧ True)) => zh)
  have hS0 : (Below w.heap.size w (w.alloc (.cells #[.int .u8 t, .int .u8 c, .int .u16 n, .string r, .string d] 29)) ∧ (w.alloc (.cells #[.int .u8 t, .int .u8 c, .int .u16 n, .string r, .string d] 29)).cell? ⟨w.heap.size, 0, none⟩ = some (.int .u8 t) ∧ (w.alloc (.cells #[.int .u8 t, .int .u8 c, .int .u16 n, .string r, .string d] 29)).cell? ⟨w.heap.size, 1, none⟩ = some (.int .u8 c) ∧ (w.alloc (.cells #[.int .u8 t, .int .u8 c, .int .u16 n, .string r, .string d] 29)).cell? ⟨w.heap.size, 2, none⟩ = some (.int .u16 n) ∧ (w.alloc (.cells #[.int .u8 t, .int .u8 c, .int .u16 n, .string r, .string d] 29)).cell? ⟨w.heap.size, 3, none⟩ = some (.string r) ∧ (w.alloc (.cells #[.int .u8 t, .int .u8 c, .int .u16 n, .string r, .string d] 29)).cell? ⟨w.heap.size, 4, none⟩ = some (.string d) ∧ True) := ⟨(by (repeat' (first | with_reducible exact Below.refl _ _ | with_reducible refine Below.setCell ?_ (by first | exact Nat.le_refl _ | (dsimp only; omega)) _ | with_reducible refine bstep ?_ (fresh_below _ _) | with_reducible refine Below.drew ?_))), d0.at_ 0, d0.at_ 1, d0.at_ 2, d0.at_ 3, d0.at_ 4, trivial⟩
  go_region_held_law (fun w' => (Below w.heap.size w w' ∧ w'.cell? ⟨w.heap.size, 0, none⟩ = some (.int .u8 t) ∧ w'.cell? ⟨w.heap.size, 1, none⟩ = some (.int .u8 c) ∧ w'.cell? ⟨w.heap.size, 2, none⟩ = some (.int .u16 n) ∧ w'.cell? ⟨w.heap.size, 3, none⟩ = some (.string r) ∧ w'.cell? ⟨w.heap.size, 4, none⟩ = some (.string d) ∧ True)) (first | assumption | exact SK.out _ _ hS0 (Below.refl _ _).drew | exact SK.out _ _ hS0 (fresh_below _ _).drew | exact SK.out _ _ (by assumption) (fresh_below _ _) | (refine SK.out _ _ ?_ (by assumption); assumption))
    (first | (go_at_call 30; (with_reducible refine (F1.out _).mono ?_); rintro e wq ⟨rfl, bq⟩))
  all_goals
    go_wp2
    go_ret2
    exact ⟨ret_two (v_str HE.out) rfl, (by first | exact FS.out _ (by assumption) | exact bstep (FS.out _ (by assumption)) (fresh_below _ _) | exact bstep (bstep (FS.out _ (by assumption)) (fresh_below _ _)) (fresh_below _ _))⟩

set_option maxRecDepth 100000 in
set_option maxHeartbeats 8000000 in
theorem echoed (w : World) (K0 : Kinds w) : Calls Tryd.prog 8 #[] w (Ret (.bool true) w) := by
  have v1 : S (msgPut ⟨8, 0, 0, { data := #[0, 7, 0, 1] }, { data := #[97, 98] }⟩) = ({ data := #[8, 0, 0, 0, 0, 7, 0, 1, 97, 98] } : ByteArray) := by decide +kernel
  have v2 : S (icmpSeal (L { data := #[8, 0, 0, 0, 0, 7, 0, 1, 97, 98] })) = ({ data := #[8, 0, 150, 149, 0, 7, 0, 1, 97, 98] } : ByteArray) := by decide +kernel
  have ok1 : (Msg.mk 8 0 0 { data := #[0, 7, 0, 1] } { data := #[97, 98] }).Ok := ⟨by decide, by decide, by decide, by decide, by decide⟩
  have ok2 : (Msg.mk 0 0 0 { data := #[] } { data := #[] }).Ok := ⟨by decide, by decide, by decide, by decide, by decide⟩
  have ok3 : (Msg.mk 8 1 0 { data := #[] } { data := #[] }).Ok := ⟨by decide, by decide, by decide, by decide, by decide⟩
  have ok4 : (Msg.mk 0 0 0 { data := #[97] } { data := #[] }).Ok := ⟨by decide, by decide, by decide, by decide, by decide⟩
  have ok5 : (Msg.mk 11 0 0 { data := #[] } { data := #[] }).Ok := ⟨by decide, by decide, by decide, by decide, by decide⟩
  have ok6 : (Msg.mk 5 0 0 { data := #[] } { data := #[] }).Ok := ⟨by decide, by decide, by decide, by decide, by decide⟩
  have c1 := fun w => i_Put_yes _ w ok1 rfl
  have c2 := fun w k => i_Query _ w ok1 k
  have c3 := fun w k => i_Query _ w ok2 k
  have c4 := fun w k => i_Query _ w ok3 k
  have c5 := fun w => i_Seal { data := #[8, 0, 0, 0, 0, 7, 0, 1, 97, 98] } w (by decide)
  have c6 := fun w => i_ID _ w ok1
  have c7 := fun w => i_ID _ w ok4
  have c8 := fun w k => i_Error _ w ok5 k
  have c9 := fun w k => i_Error _ w ok6 k
  dsimp only at c1 c2 c3 c4 c6 c7 c8 c9
  rw [v1] at c1; rw [v2] at c5
  rw [show qAsk ⟨8, 0, 0, { data := #[0, 7, 0, 1] }, { data := #[97, 98] }⟩ = true from by decide +kernel, show qIs ⟨8, 0, 0, { data := #[0, 7, 0, 1] }, { data := #[97, 98] }⟩ = true from by decide +kernel] at c2
  rw [show qAsk ⟨0, 0, 0, { data := #[] }, { data := #[] }⟩ = false from by decide +kernel, show qIs ⟨0, 0, 0, { data := #[] }, { data := #[] }⟩ = true from by decide +kernel] at c3
  rw [show qAsk ⟨8, 1, 0, { data := #[] }, { data := #[] }⟩ = false from by decide +kernel, show qIs ⟨8, 1, 0, { data := #[] }, { data := #[] }⟩ = false from by decide +kernel] at c4
  rw [show get16 (L { data := #[0, 7, 0, 1] }) 0 = 7 from by decide +kernel] at c6
  rw [show get16 (L { data := #[97] }) 0 = 0 from by decide +kernel] at c7
  rw [show qErr ⟨11, 0, 0, { data := #[] }, { data := #[] }⟩ = true from by decide +kernel] at c8
  rw [show qErr ⟨5, 0, 0, { data := #[] }, { data := #[] }⟩ = false from by decide +kernel] at c9
  have C1 := hide c1; have C2 := hide c2; have C3 := hide c3; have C4 := hide c4; have C5 := hide c5; have C6 := hide c6; have C7 := hide c7; have C8 := hide c8; have C9 := hide c9; have KK := hide K0
  clear c1 c2 c3 c4 c5 c6 c7 c8 c9 v1 v2 ok1 ok2 ok3 ok4 ok5 ok6 K0
  go_enter Tryd.func8, Tryd.ntmps8
  have d0 := Cells.new w #[.int .u8 8, .int .u8 0, .int .u16 0, .string { data := #[0, 7, 0, 1] }, .string { data := #[97, 98] }] 29
  go_wp2_with fail
  (with_reducible refine (C1.out _).mono ?_)
  rintro e w1 ⟨rfl, b1⟩
  replace d0 := Cells.up d0 (by (repeat' (first | with_reducible exact Below.refl _ _ | with_reducible refine bstep ?_ (fresh_below _ _) | with_reducible refine Below.drew ?_))) b1
  replace b1 : Below w.heap.size w w1 := by (refine bstep ?_ b1); (repeat' (first | with_reducible exact Below.refl _ _ | with_reducible refine Below.setCell ?_ (by first | exact Nat.le_refl _ | (dsimp only; omega)) _ | with_reducible refine bstep ?_ (fresh_below _ _) | with_reducible refine Below.drew ?_))
  have z1 : w.heap.size ≤ w1.heap.size := b1.size
  have xd0_0 : w1.cell? ⟨w.heap.size, 0, none⟩ = some (.int .u8 8) := d0.at_ 0
  have xd0_1 : w1.cell? ⟨w.heap.size, 1, none⟩ = some (.int .u8 0) := d0.at_ 1
  have xd0_2 : w1.cell? ⟨w.heap.size, 2, none⟩ = some (.int .u16 0) := d0.at_ 2
  have xd0_3 : w1.cell? ⟨w.heap.size, 3, none⟩ = some (.string { data := #[0, 7, 0, 1] }) := d0.at_ 3
  have xd0_4 : w1.cell? ⟨w.heap.size, 4, none⟩ = some (.string { data := #[97, 98] }) := d0.at_ 4
  go_wp2_with fail
  (with_reducible refine (C2.out _ (KK.out.below (by (repeat' (first | with_reducible exact b1 | with_reducible exact Below.refl _ _ | with_reducible refine Below.setCell ?_ (by first | exact Nat.le_refl _ | (dsimp only; omega)) _ | with_reducible refine bstep ?_ (fresh_below _ _) | with_reducible refine Below.drew ?_))))).mono ?_)
  rintro e w2 ⟨rfl, b2⟩
  replace d0 := Cells.up d0 (by (repeat' (first | with_reducible exact Below.refl _ _ | with_reducible refine bstep ?_ (fresh_below _ _) | with_reducible refine Below.drew ?_))) b2
  replace b2 : Below w.heap.size w w2 := by (refine bstep ?_ b2); (repeat' (first | with_reducible exact b1 | with_reducible exact Below.refl _ _ | with_reducible refine Below.setCell ?_ (by first | exact Nat.le_refl _ | (dsimp only; omega)) _ | with_reducible refine bstep ?_ (fresh_below _ _) | with_reducible refine Below.drew ?_))
  have z2 : w.heap.size ≤ w2.heap.size := b2.size
  go_wp2_with fail
  (with_reducible refine (C3.out _ (KK.out.below (by (repeat' (first | with_reducible exact b2 | with_reducible exact Below.refl _ _ | with_reducible refine Below.setCell ?_ (by first | exact Nat.le_refl _ | (dsimp only; omega)) _ | with_reducible refine bstep ?_ (fresh_below _ _) | with_reducible refine Below.drew ?_))))).mono ?_)
  rintro e w3 ⟨rfl, b3⟩
  replace d0 := Cells.up d0 (by (repeat' (first | with_reducible exact Below.refl _ _ | with_reducible refine bstep ?_ (fresh_below _ _) | with_reducible refine Below.drew ?_))) b3
  replace b3 : Below w.heap.size w w3 := by (refine bstep ?_ b3); (repeat' (first | with_reducible exact b2 | with_reducible exact Below.refl _ _ | with_reducible refine Below.setCell ?_ (by first | exact Nat.le_refl _ | (dsimp only; omega)) _ | with_reducible refine bstep ?_ (fresh_below _ _) | with_reducible refine Below.drew ?_))
  have z3 : w.heap.size ≤ w3.heap.size := b3.size
  go_wp2_with fail
  (with_reducible refine (C4.out _ (KK.out.below (by (repeat' (first | with_reducible exact b3 | with_reducible exact Below.refl _ _ | with_reducible refine Below.setCell ?_ (by first | exact Nat.le_refl _ | (dsimp only; omega)) _ | with_reducible refine bstep ?_ (fresh_below _ _) | with_reducible refine Below.drew ?_))))).mono ?_)
  rintro e w4 ⟨rfl, b4⟩
  replace d0 := Cells.up d0 (by (repeat' (first | with_reducible exact Below.refl _ _ | with_reducible refine bstep ?_ (fresh_below _ _) | with_reducible refine Below.drew ?_))) b4
  replace b4 : Below w.heap.size w w4 := by (refine bstep ?_ b4); (repeat' (first | with_reducible exact b3 | with_reducible exact Below.refl _ _ | with_reducible refine Below.setCell ?_ (by first | exact Nat.le_refl _ | (dsimp only; omega)) _ | with_reducible refine bstep ?_ (fresh_below _ _) | with_reducible refine Below.drew ?_))
  have z4 : w.heap.size ≤ w4.heap.size := b4.size
  go_wp2_with fail
  (with_reducible refine (C5.out _).mono ?_)
  rintro e w5 ⟨rfl, b5⟩
  replace d0 := Cells.up d0 (by (repeat' (first | with_reducible exact Below.refl _ _ | with_reducible refine bstep ?_ (fresh_below _ _) | with_reducible refine Below.drew ?_))) b5
  replace b5 : Below w.heap.size w w5 := by (refine bstep ?_ b5); (repeat' (first | with_reducible exact b4 | with_reducible exact Below.refl _ _ | with_reducible refine Below.setCell ?_ (by first | exact Nat.le_refl _ | (dsimp only; omega)) _ | with_reducible refine bstep ?_ (fresh_below _ _) | with_reducible refine Below.drew ?_))
  have z5 : w.heap.size ≤ w5.heap.size := b5.size
  have xd0_0 : w5.cell? ⟨w.heap.size, 0, none⟩ = some (.int .u8 8) := d0.at_ 0
  have xd0_1 : w5.cell? ⟨w.heap.size, 1, none⟩ = some (.int .u8 0) := d0.at_ 1
  have xd0_2 : w5.cell? ⟨w.heap.size, 2, none⟩ = some (.int .u16 0) := d0.at_ 2
  have xd0_3 : w5.cell? ⟨w.heap.size, 3, none⟩ = some (.string { data := #[0, 7, 0, 1] }) := d0.at_ 3
  have xd0_4 : w5.cell? ⟨w.heap.size, 4, none⟩ = some (.string { data := #[97, 98] }) := d0.at_ 4
  go_wp2_with fail
  (with_reducible refine (C6.out _).mono ?_)
  rintro e w6 ⟨rfl, b6⟩
  replace b6 : Below w.heap.size w w6 := by (refine bstep ?_ b6); (repeat' (first | with_reducible exact b5 | with_reducible exact Below.refl _ _ | with_reducible refine Below.setCell ?_ (by first | exact Nat.le_refl _ | (dsimp only; omega)) _ | with_reducible refine bstep ?_ (fresh_below _ _) | with_reducible refine Below.drew ?_))
  have z6 : w.heap.size ≤ w6.heap.size := b6.size
  go_wp2_with fail
  (with_reducible refine (C7.out _).mono ?_)
  rintro e w7 ⟨rfl, b7⟩
  replace b7 : Below w.heap.size w w7 := by (refine bstep ?_ b7); (repeat' (first | with_reducible exact b6 | with_reducible exact Below.refl _ _ | with_reducible refine Below.setCell ?_ (by first | exact Nat.le_refl _ | (dsimp only; omega)) _ | with_reducible refine bstep ?_ (fresh_below _ _) | with_reducible refine Below.drew ?_))
  have z7 : w.heap.size ≤ w7.heap.size := b7.size
  go_wp2_with fail
  (with_reducible refine (C8.out _ (KK.out.below (by (repeat' (first | with_reducible exact b7 | with_reducible exact Below.refl _ _ | with_reducible refine Below.setCell ?_ (by first | exact Nat.le_refl _ | (dsimp only; omega)) _ | with_reducible refine bstep ?_ (fresh_below _ _) | with_reducible refine Below.drew ?_))))).mono ?_)
  rintro e w8 ⟨rfl, b8⟩
  replace b8 : Below w.heap.size w w8 := by (refine bstep ?_ b8); (repeat' (first | with_reducible exact b7 | with_reducible exact Below.refl _ _ | with_reducible refine Below.setCell ?_ (by first | exact Nat.le_refl _ | (dsimp only; omega)) _ | with_reducible refine bstep ?_ (fresh_below _ _) | with_reducible refine Below.drew ?_))
  have z8 : w.heap.size ≤ w8.heap.size := b8.size
  go_wp2_with fail
  (with_reducible refine (C9.out _ (KK.out.below (by (repeat' (first | with_reducible exact b8 | with_reducible exact Below.refl _ _ | with_reducible refine Below.setCell ?_ (by first | exact Nat.le_refl _ | (dsimp only; omega)) _ | with_reducible refine bstep ?_ (fresh_below _ _) | with_reducible refine Below.drew ?_))))).mono ?_)
  rintro e w9 ⟨rfl, b9⟩
  replace b9 : Below w.heap.size w w9 := by (refine bstep ?_ b9); (repeat' (first | with_reducible exact b8 | with_reducible exact Below.refl _ _ | with_reducible refine Below.setCell ?_ (by first | exact Nat.le_refl _ | (dsimp only; omega)) _ | with_reducible refine bstep ?_ (fresh_below _ _) | with_reducible refine Below.drew ?_))
  have z9 : w.heap.size ≤ w9.heap.size := b9.size
  go_wp2
  go_ret
  exact ⟨rfl, (by (repeat' (first | with_reducible exact b9 | with_reducible exact Below.refl _ _ | with_reducible refine Below.setCell ?_ (by first | exact Nat.le_refl _ | (dsimp only; omega)) _ | with_reducible refine bstep ?_ (fresh_below _ _) | with_reducible refine Below.drew ?_)))⟩
end Go.Proofs.YthmedjlecikbiaaDoor
