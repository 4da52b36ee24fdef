/- Several texts of this claim, one behind the other. -/
import Derived.Test.YtjeaknipmdfkdaaGreatDoorK30
import Derived.Test.YtjeaknipmdfkdaaGreatDoorK21
import Derived.Test.YtjeaknipmdfkdaaGreatDoorK2
import Derived.Test.YtjeaknipmdfkdaaGreatDoorK22
import Derived.Test.YtjeaknipmdfkdaaGreatDoorK25

section
/- The document's answer for what is seen of a packet (porterref08.Of), over this program: the same as the program's. -/
set_option linter.unusedVariables false
set_option linter.unusedSimpArgs false
namespace Go.Proofs.YtjeaknipmdfkdaaGreatDoor
open Go.RowKit

theorem o_Of (s : ByteArray) (w : World) (hs : s.size ≤ 140737488351232) :
    Calls Tryz.prog 57 #[.string s] w (Ret (.tuple #[.agg (seenOf s).cells, .int .i64 (seenWhy s)]) w) := by
  have c1 := fun W => r4_Parse s W hs
  by_cases hw : ipWhy s = 0
  · have hr : (ipRest s).size ≤ 140737488351232 := by unfold ipRest; rw [if_pos hw, ByteArray.size_extract]; omega
    rw [show hdRes s = hdOf s from by unfold hdRes; rw [if_pos hw], hw] at c1
    have e1 : seenWhy s = loadWhy (hdOf s).p (ipRest s) := by unfold seenWhy; rw [if_pos hw]
    have e2 : seenOf s = if loadWhy (hdOf s).p (ipRest s) = 0 then loadSeen (hdOf s) (ipRest s) else seenNone := by unfold seenOf; rw [e1]
    rw [e1, e2]
    clear e1 e2 hw
    generalize hdOf s = h at *
    generalize ipRest s = l at *
    obtain ⟨h0, h1, h2, h3, h4, h5, h6, h7⟩ := h
    unfold Hd.cells at c1
    simp only at c1 ⊢
    unfold loadWhy loadSeen
    simp only
    by_cases p6 : h4 = 6
    · subst p6
      rw [if_pos rfl, if_pos rfl]
      by_cases ht : tcpIs l = true
      · rw [if_pos ht, if_pos rfl]
        have c2 := fun W => r6_Parse_yes l W hr ht
        by_cases hk : bits .and .u8 (segOf l).f 23 = 2
        · rw [if_pos hk]; exact o_Of_tcp_first s l w _ _ _ _ _ _ _ _ _ _ _ _ _ _ _ _ _ _ hk c1 c2
        · rw [if_neg hk]; exact o_Of_tcp_flow s l w _ _ _ _ _ _ _ _ _ _ _ _ _ _ _ _ _ _ hk c1 c2
      · rw [if_neg ht, if_neg (by decide)]
        have c2 := fun W => r6_Parse_no l W hr (by simpa using ht)
        exact o_Of_tcp_no s l w _ _ _ _ _ _ _ _ c1 c2
    rw [if_neg p6, if_neg p6]
    by_cases p17 : h4 = 17
    · subst p17
      rw [if_pos rfl, if_pos rfl]
      by_cases ht : udpIs l = true
      · rw [if_pos ht, if_pos rfl]
        have c2 := fun W => r5_Parse_yes l W (by unfold maxLen; omega) ht
        unfold udpHead at c2
        exact o_Of_udp_yes s l w _ _ _ _ _ _ _ _ _ _ _ _ c1 c2
      · rw [if_neg ht, if_neg (by decide)]
        have c2 := fun W => r5_Parse_no l W (by unfold maxLen; omega) (by simpa using ht)
        unfold udpNone at c2
        exact o_Of_udp_no s l w _ _ _ _ _ _ _ _ c1 c2
    rw [if_neg p17, if_neg p17]
    by_cases p1 : h4 = 1
    · subst p1
      rw [if_pos rfl]
      by_cases h8 : l.size < 8
      · rw [if_pos h8, if_neg (by decide)]
        have c2 := fun W => r7_Parse_no l W h8
        exact o_Of_msg_no s l w _ _ _ _ _ _ _ c1 c2
      · rw [if_neg h8]
        have c2 := fun W => r7_Parse_yes l W hr (by omega)
        have c3 := fun W => r7_Query (msgOf l) W
        have c4 := fun W => r7_Error (msgOf l) W
        have ok := msgOf_ok hr
        have c5 := fun W => r7_ID (msgOf l) W ok
        have hai : qAsk (msgOf l) = true → qIs (msgOf l) = true := by
          unfold qAsk qIs; simp; intro a b; exact ⟨a, Or.inl b⟩
        by_cases hq : qIs (msgOf l) = true
        · rw [if_pos (Or.inl hq), if_pos rfl]
          by_cases ha : qAsk (msgOf l) = true
          · rw [if_pos ha]
            rw [ha, hq] at c3
            exact o_Of_msg_ask (qErr (msgOf l)) s l w _ _ _ _ _ _ _ _ _ _ _ _ _ c1 c2 c3 c4 c5
          · rw [if_neg ha, if_pos hq]
            rw [show qAsk (msgOf l) = false from by simpa using ha, hq] at c3
            exact o_Of_msg_told (qErr (msgOf l)) s l w _ _ _ _ _ _ _ _ _ _ _ _ _ c1 c2 c3 c4 c5
        · have hq' : qIs (msgOf l) = false := by simpa using hq
          have ha : qAsk (msgOf l) = false := by
            cases h : qAsk (msgOf l)
            · rfl
            · exact absurd (hai h) hq
          rw [ha, hq'] at c3
          by_cases he : qErr (msgOf l) = true
          · rw [if_pos (Or.inr he), if_pos rfl, if_neg (by rw [ha]; decide), if_neg hq]
            rw [he] at c4
            exact o_Of_msg_err s l w _ _ _ _ _ _ _ _ _ _ _ _ _ c1 c2 c3 c4 c5
          · rw [if_neg (show ¬ (qIs (msgOf l) = true ∨ qErr (msgOf l) = true) by simp [hq', he]), if_neg (show ¬ (6 : Int) = 0 by decide)]
            rw [show qErr (msgOf l) = false from by simpa using he] at c4
            exact o_Of_msg_none s l w _ _ _ _ _ _ _ _ _ _ _ _ _ c1 c2 c3 c4 c5
    · rw [if_neg p1, if_neg (by decide)]
      exact o_Of_other s l w _ _ _ _ _ _ _ _ c1 ⟨p6, p17, p1⟩
  · have e1 : seenWhy s = ipWhy s := by unfold seenWhy; rw [if_neg hw]
    have e2 : seenOf s = seenNone := by unfold seenOf; rw [e1, if_neg hw]
    rw [e1, e2]
    unfold Hd.cells at c1
    exact o_Of_bad s _ w _ _ _ _ _ _ _ _ _ hw c1
end Go.Proofs.YtjeaknipmdfkdaaGreatDoor
end

section
/- The document's answer for rewrite (porterref09): Apply, over this program. -/
set_option linter.unusedVariables false
set_option linter.unusedSimpArgs false
namespace Go.Proofs.YtjeaknipmdfkdaaGreatDoor
open Go.RowKit
attribute [local go_sem] Oper.semAt_some

set_option maxRecDepth 100000 in
set_option maxHeartbeats 4000000 in
theorem rn_Apply_bad (a b c d : Int) (x0 x1 x2 x3 x4 x5 x6 x8 : Int) (x7 : Bool) (s : ByteArray) (r : Int) (hr : r ≠ 0) (w : World)
    (c1 : ∀ W, Calls Tryz.prog 57 #[.string s] W (Ret (.tuple #[.agg #[.int .u8 x0, .int .u32 x1, .int .u16 x2, .int .u32 x3, .int .u16 x4, .int .i64 x5, .int .u8 x6, .bool x7, .int .u8 x8], .int .i64 r]) W)) :
    Calls Tryz.prog 35 #[.string s, .agg #[.int .u32 a, .int .u16 b, .int .u32 c, .int .u16 d]] w (Ret (.tuple #[.string { data := #[] }, .int .i64 r]) w) := by
  have q1 : (r != 0) = true := by simpa using hr
  have q2 : (r == 0) = false := by simpa using hr
  have C1 := hide c1
  clear c1 hr
  go_enter Tryz.func35, Tryz.ntmps35
  go_wp2_with fail
  (with_reducible refine (C1.out _).mono ?_)
  rintro e w1 ⟨rfl, b1⟩
  replace b1 : Below w.heap.size w w1 := by (refine bstep ?_ b1); (repeat' (first | with_reducible exact Below.refl _ _ | with_reducible refine Below.setCell ?_ (by first | exact Nat.le_refl _ | (dsimp only; omega)) _ | with_reducible refine bstep ?_ (fresh_below _ _) | with_reducible refine Below.drew ?_))
  have z1 : w.heap.size ≤ w1.heap.size := b1.size
  go_wp2_with fail
  go_ret2
  exact ⟨rfl, bstep b1 (fresh_below _ _)⟩

set_option maxRecDepth 100000 in
set_option maxHeartbeats 4000000 in
theorem rn_Apply_ttl (a b c d : Int) (x0 x1 x2 x3 x4 x5 x6 x8 : Int) (x7 : Bool) (s : ByteArray) (hr : x8 < 2) (w : World)
    (c1 : ∀ W, Calls Tryz.prog 57 #[.string s] W (Ret (.tuple #[.agg #[.int .u8 x0, .int .u32 x1, .int .u16 x2, .int .u32 x3, .int .u16 x4, .int .i64 x5, .int .u8 x6, .bool x7, .int .u8 x8], .int .i64 0]) W)) :
    Calls Tryz.prog 35 #[.string s, .agg #[.int .u32 a, .int .u16 b, .int .u32 c, .int .u16 d]] w (Ret (.tuple #[.string { data := #[] }, .int .i64 8]) w) := by
  have C1 := hide c1
  clear c1
  go_enter Tryz.func35, Tryz.ntmps35
  go_wp2_with fail
  (with_reducible refine (C1.out _).mono ?_)
  rintro e w1 ⟨rfl, b1⟩
  replace b1 : Below w.heap.size w w1 := by (refine bstep ?_ b1); (repeat' (first | with_reducible exact Below.refl _ _ | with_reducible refine Below.setCell ?_ (by first | exact Nat.le_refl _ | (dsimp only; omega)) _ | with_reducible refine bstep ?_ (fresh_below _ _) | with_reducible refine Below.drew ?_))
  have z1 : w.heap.size ≤ w1.heap.size := b1.size
  have e1 := Cells.new w1 #[.int .u8 x0, .int .u32 x1, .int .u16 x2, .int .u32 x3, .int .u16 x4, .int .i64 x5, .int .u8 x6, .bool x7, .int .u8 x8] 120
  obtain ⟨xe1_0, xe1_1, xe1_2, xe1_3, xe1_4, xe1_5, xe1_6, xe1_7, xe1_8⟩ := e1.x9
  go_wp2_with fail
  go_ret2
  exact ⟨rfl, bstep b1 (fresh_below _ _)⟩

set_option maxRecDepth 100000 in
set_option maxHeartbeats 4000000 in
theorem rn_Apply_tcp (a b c d : Int) (x0 x1 x2 x3 x4 x5 x6 x8 : Int) (x7 : Bool) (h0 h1 h3 h4 h5 h6 : Int) (h2 : Bool) (o l : ByteArray) (y : Int) (s : ByteArray) (t1 t2 : ByteArray) (hr : ¬ x8 < 2) (hs : s.size ≤ 140737488351232) (h20 : 20 ≤ s.size) (hy : 0 ≤ y ∧ y ≤ 255) (e0 : (((s[0]'(by omega)).toNat : Nat) : Int) = y) (ho : y % 16 * 4 ≤ s.size) (hz : t1.size + t2.size ≤ 1000000) (hp : x0 = 6) (w : World)
    (c1 : ∀ W, Calls Tryz.prog 57 #[.string s] W (Ret (.tuple #[.agg #[.int .u8 x0, .int .u32 x1, .int .u16 x2, .int .u32 x3, .int .u16 x4, .int .i64 x5, .int .u8 x6, .bool x7, .int .u8 x8], .int .i64 0]) W))
    (c2 : ∀ W, Calls Tryz.prog 58 #[.string s] W (Ret (.tuple #[.agg #[.int .u8 h0, .int .u16 h1, .bool h2, .int .u8 h3, .int .u8 h4, .int .u32 h5, .int .u32 h6, .string o], .string l, .int .i64 0]) W))
    (c3 : ∀ W, Calls Tryz.prog 73 #[.string (s.extract 0 (y % 16 * 4).toNat), .agg #[.int .u32 a, .int .u16 b, .int .u32 c, .int .u16 d]] W (Ret (.string t1) W))
    (c4 : ∀ W, Calls Tryz.prog 74 #[.string l, .string (s.extract 12 20), .agg #[.int .u32 a, .int .u16 b, .int .u32 c, .int .u16 d], .int .i64 16] W (Ret (.string t2) W)) :
    Calls Tryz.prog 35 #[.string s, .agg #[.int .u32 a, .int .u16 b, .int .u32 c, .int .u16 d]] w (Ret (.tuple #[.string (t1 ++ t2), .int .i64 0]) w) := by
  subst hp
  have i2 : (20 : Int) ≤ (s.size : Int) := by omega
  have i3 : (t1 ++ t2).size ≤ 1000000 := by rw [ByteArray.size_append]; exact hz
  have i4 : (0 : Int) < (s.size : Int) := by omega
  have i5 : 0 < s.size := by omega
  have m5 : y.tmod 16 = y % 16 := Int.tmod_eq_emod_of_nonneg (by omega)
  have oZ : (0 : Int) ≤ y % 16 * 4 := by omega
  have kw : IntKind.i64.wrap (y % 16 * 4) = y % 16 * 4 := IntWalk.i64_in _ (by omega)
  have C1 := hide c1; have C2 := hide c2; have C3 := hide c3
  clear c1 c2 c3
  have C4 := hide c4
  clear c4
  go_enter Tryz.func35, Tryz.ntmps35
  have d0 := Cells.new w #[.int .u32 a, .int .u16 b, .int .u32 c, .int .u16 d] 39
  go_wp2_with fail
  (with_reducible refine (C1.out _).mono ?_)
  rintro e w1 ⟨rfl, b1⟩
  have d1 := Cells.alloc (Cells.below b1 d0) (.cells #[.int .u8 6, .int .u32 x1, .int .u16 x2, .int .u32 x3, .int .u16 x4, .int .i64 x5, .int .u8 x6, .bool x7, .int .u8 x8] 120)
  have e1 := Cells.new w1 #[.int .u8 6, .int .u32 x1, .int .u16 x2, .int .u32 x3, .int .u16 x4, .int .i64 x5, .int .u8 x6, .bool x7, .int .u8 x8] 120
  obtain ⟨xe1_0, xe1_1, xe1_2, xe1_3, xe1_4, xe1_5, xe1_6, xe1_7, xe1_8⟩ := e1.x9
  replace b1 : Below w.heap.size w (w1.alloc (.cells #[.int .u8 6, .int .u32 x1, .int .u16 x2, .int .u32 x3, .int .u16 x4, .int .i64 x5, .int .u8 x6, .bool x7, .int .u8 x8] 120)) := bstep (bstep (fresh_below _ _) b1) (fresh_below _ _)
  go_wp2_with fail
  (with_reducible refine (C2.out _).mono ?_)
  rintro e w2 ⟨rfl, b2⟩
  have d2 := Cells.alloc (Cells.below b2 d1) (.cells #[.int .u8 h0, .int .u16 h1, .bool h2, .int .u8 h3, .int .u8 h4, .int .u32 h5, .int .u32 h6, .string o] 50)
  have e2 := Cells.alloc (Cells.below b2 e1) (.cells #[.int .u8 h0, .int .u16 h1, .bool h2, .int .u8 h3, .int .u8 h4, .int .u32 h5, .int .u32 h6, .string o] 50)
  replace b2 : Below w.heap.size w (w2.alloc (.cells #[.int .u8 h0, .int .u16 h1, .bool h2, .int .u8 h3, .int .u8 h4, .int .u32 h5, .int .u32 h6, .string o] 50)) := bstep (bstep b1 b2) (fresh_below _ _)
  clear d0 d1 e1 b1 xe1_0 xe1_1 xe1_2 xe1_3 xe1_4 xe1_5 xe1_6 xe1_7 xe1_8
  have D2 := hide d2; have E2 := hide e2; have B2 := hide b2
  clear d2 e2 b2
  go_wp2_with fail
  have d2 := D2.out; have e2 := E2.out; have b2 := B2.out
  clear D2 E2 B2
  generalize (w2.alloc (.cells #[.int .u8 h0, .int .u16 h1, .bool h2, .int .u8 h3, .int .u8 h4, .int .u32 h5, .int .u32 h6, .string o] 50)) = w3 at *
  have SK := hide (fun (zX zY : World) (zh : (Below w.heap.size w zX ∧ zX.cell? ⟨w.heap.size, 0, none⟩ = some (.int .u32 a) ∧ zX.cell? ⟨w.heap.size, 1, none⟩ = some (.int .u16 b) ∧ zX.cell? ⟨w.heap.size, 2, none⟩ = some (.int .u32 c) ∧ zX.cell? ⟨w.heap.size, 3, none⟩ = some (.int .u16 d) ∧ zX.cell? ⟨w1.heap.size, 0, none⟩ = some (.int .u8 6) ∧ zX.cell? ⟨w1.heap.size, 1, none⟩ = some (.int .u32 x1) ∧ zX.cell? ⟨w1.heap.size, 2, none⟩ = some (.int .u16 x2) ∧ zX.cell? ⟨w1.heap.size, 3, none⟩ = some (.int .u32 x3) ∧ zX.cell? ⟨w1.heap.size, 4, none⟩ = some (.int .u16 x4) ∧ zX.cell? ⟨w1.heap.size, 5, none⟩ = some (.int .i64 x5) ∧ zX.cell? ⟨w1.heap.size, 6, none⟩ = some (.int .u8 x6) ∧ zX.cell? ⟨w1.heap.size, 7, none⟩ = some (.bool x7) ∧ zX.cell? ⟨w1.heap.size, 8, none⟩ = some (.int .u8 x8) ∧ True)) (zb : Below zX.heap.size zX zY) => (show (Below w.heap.size w zY ∧ zY.cell? ⟨w.heap.size, 0, none⟩ = some (.int .u32 a) ∧ zY.cell? ⟨w.heap.size, 1, none⟩ = some (.int .u16 b) ∧ zY.cell? ⟨w.heap.size, 2, none⟩ = some (.int .u32 c) ∧ zY.cell? ⟨w.heap.size, 3, none⟩ = some (.int .u16 d) ∧ zY.cell? ⟨w1.heap.size, 0, none⟩ = some (.int .u8 6) ∧ zY.cell? ⟨w1.heap.size, 1, none⟩ = some (.int .u32 x1) ∧ zY.cell? ⟨w1.heap.size, 2, none⟩ = some (.int .u16 x2) ∧ zY.cell? ⟨w1.heap.size, 3, none⟩ = some (.int .u32 x3) ∧ zY.cell? ⟨w1.heap.size, 4, none⟩ = some (.int .u16 x4) ∧ zY.cell? ⟨w1.heap.size, 5, none⟩ = some (.int .i64 x5) ∧ zY.cell? ⟨w1.heap.size, 6, none⟩ = some (.int .u8 x6) ∧ zY.cell? ⟨w1.heap.size, 7, none⟩ = some (.bool x7) ∧ zY.cell? ⟨w1.heap.size, 8, none⟩ = some (.int .u8 x8) ∧ True) from ⟨bstep zh.1 zb, cellAt zb zh.2.1, cellAt zb zh.2.2.1, cellAt zb zh.2.2.2.1, cellAt zb zh.2.2.2.2.1, cellAt zb zh.2.2.2.2.2.1, cellAt zb zh.2.2.2.2.2.2.1, cellAt zb zh.2.2.2.2.2.2.2.1, cellAt zb zh.2.2.2.2.2.2.2.2.1, cellAt zb zh.2.2.2.2.2.2.2.2.2.1, cellAt zb zh.2.2.2.2.2.2.2.2.2.2.1, cellAt zb zh.2.2.2.2.2.2.2.2.2.2.2.1, cellAt zb zh.2.2.2.2.2.2.2.2.2.2.2.2.1, cellAt zb zh.2.2.2.2.2.2.2.2.2.2.2.2.2.1, trivial⟩))
  have FS := hide (fun (zX : World) (zh : (Below w.heap.size w zX ∧ zX.cell? ⟨w.heap.size, 0, none⟩ = some (.int .u32 a) ∧ zX.cell? ⟨w.heap.size, 1, none⟩ = some (.int .u16 b) ∧ zX.cell? ⟨w.heap.size, 2, none⟩ = some (.int .u32 c) ∧ zX.cell? ⟨w.heap.size, 3, none⟩ = some (.int .u16 d) ∧ zX.cell? ⟨w1.heap.size, 0, none⟩ = some (.int .u8 6) ∧ zX.cell? ⟨w1.heap.size, 1, none⟩ = some (.int .u32 x1) ∧ zX.cell? ⟨w1.heap.size, 2, none⟩ = some (.int .u16 x2) ∧ zX.cell? ⟨w1.heap.size, 3, none⟩ = some (.int .u32 x3) ∧ zX.cell? ⟨w1.heap.size, 4, none⟩ = some (.int .u16 x4) ∧ zX.cell? ⟨w1.heap.size, 5, none⟩ = some (.int .i64 x5) ∧ zX.cell? ⟨w1.heap.size, 6, none⟩ = some (.int .u8 x6) ∧ zX.cell? ⟨w1.heap.size, 7, none⟩ = some (.bool x7) ∧ zX.cell? ⟨w1.heap.size, 8, none⟩ = some (.int .u8 x8) ∧ True)) => zh.1)
  have GS := hide (fun (zX : World) (zh : (Below w.heap.size w zX ∧ zX.cell? ⟨w.heap.size, 0, none⟩ = some (.int .u32 a) ∧ zX.cell? ⟨w.heap.size, 1, none⟩ = some (.int .u16 b) ∧ zX.cell? ⟨w.heap.size, 2, none⟩ = some (.int .u32 c) ∧ zX.cell? ⟨w.heap.size, 3, none⟩ = some (.int .u16 d) ∧ zX.cell? ⟨w1.heap.size, 0, none⟩ = some (.int .u8 6) ∧ zX.cell? ⟨w1.heap.size, 1, none⟩ = some (.int .u32 x1) ∧ zX.cell? ⟨w1.heap.size, 2, none⟩ = some (.int .u16 x2) ∧ zX.cell? ⟨w1.heap.size, 3, none⟩ = some (.int .u32 x3) ∧ zX.cell? ⟨w1.heap.size, 4, none⟩ = some (.int .u16 x4) ∧ zX.cell? ⟨w1.heap.size, 5, none⟩ = some (.int .i64 x5) ∧ zX.cell? ⟨w1.heap.size, 6, none⟩ = some (.int .u8 x6) ∧ zX.cell? ⟨w1.heap.size, 7, none⟩ = some (.bool x7) ∧ zX.cell? ⟨w1.heap.size, 8, none⟩ = some (.int .u8 x8) ∧ True)) => zh)
  have hS0 : (Below w.heap.size w w3 ∧ w3.cell? ⟨w.heap.size, 0, none⟩ = some (.int .u32 a) ∧ w3.cell? ⟨w.heap.size, 1, none⟩ = some (.int .u16 b) ∧ w3.cell? ⟨w.heap.size, 2, none⟩ = some (.int .u32 c) ∧ w3.cell? ⟨w.heap.size, 3, none⟩ = some (.int .u16 d) ∧ w3.cell? ⟨w1.heap.size, 0, none⟩ = some (.int .u8 6) ∧ w3.cell? ⟨w1.heap.size, 1, none⟩ = some (.int .u32 x1) ∧ w3.cell? ⟨w1.heap.size, 2, none⟩ = some (.int .u16 x2) ∧ w3.cell? ⟨w1.heap.size, 3, none⟩ = some (.int .u32 x3) ∧ w3.cell? ⟨w1.heap.size, 4, none⟩ = some (.int .u16 x4) ∧ w3.cell? ⟨w1.heap.size, 5, none⟩ = some (.int .i64 x5) ∧ w3.cell? ⟨w1.heap.size, 6, none⟩ = some (.int .u8 x6) ∧ w3.cell? ⟨w1.heap.size, 7, none⟩ = some (.bool x7) ∧ w3.cell? ⟨w1.heap.size, 8, none⟩ = some (.int .u8 x8) ∧ True) := ⟨(by (repeat' (first | with_reducible exact b2 | with_reducible exact Below.refl _ _ | with_reducible refine Below.setCell ?_ (by first | exact Nat.le_refl _ | (dsimp only; omega)) _ | with_reducible refine bstep ?_ (fresh_below _ _) | with_reducible refine Below.drew ?_))), d2.at_ 0, d2.at_ 1, d2.at_ 2, d2.at_ 3, e2.at_ 0, e2.at_ 1, e2.at_ 2, e2.at_ 3, e2.at_ 4, e2.at_ 5, e2.at_ 6, e2.at_ 7, e2.at_ 8, trivial⟩
  go_region_held_law (fun w' => (Below w.heap.size w w' ∧ w'.cell? ⟨w.heap.size, 0, none⟩ = some (.int .u32 a) ∧ w'.cell? ⟨w.heap.size, 1, none⟩ = some (.int .u16 b) ∧ w'.cell? ⟨w.heap.size, 2, none⟩ = some (.int .u32 c) ∧ w'.cell? ⟨w.heap.size, 3, none⟩ = some (.int .u16 d) ∧ w'.cell? ⟨w1.heap.size, 0, none⟩ = some (.int .u8 6) ∧ w'.cell? ⟨w1.heap.size, 1, none⟩ = some (.int .u32 x1) ∧ w'.cell? ⟨w1.heap.size, 2, none⟩ = some (.int .u16 x2) ∧ w'.cell? ⟨w1.heap.size, 3, none⟩ = some (.int .u32 x3) ∧ w'.cell? ⟨w1.heap.size, 4, none⟩ = some (.int .u16 x4) ∧ w'.cell? ⟨w1.heap.size, 5, none⟩ = some (.int .i64 x5) ∧ w'.cell? ⟨w1.heap.size, 6, none⟩ = some (.int .u8 x6) ∧ w'.cell? ⟨w1.heap.size, 7, none⟩ = some (.bool x7) ∧ w'.cell? ⟨w1.heap.size, 8, none⟩ = some (.int .u8 x8) ∧ True)) (first | assumption | exact SK.out _ _ hS0 (Below.refl _ _).drew | exact SK.out _ _ hS0 (fresh_below _ _).drew | exact SK.out _ _ (by assumption) (fresh_below _ _) | (refine SK.out _ _ ?_ (by assumption); assumption))
    (first | (go_at_call 73; (with_reducible refine (C3.out _).mono ?_); rintro e wq ⟨rfl, bq⟩))
  all_goals
    have gs := GS.out _ (by assumption)
    obtain ⟨gb, g0, g1, g2, g3, k0, k1, k2, k3, k4, k5, k6, k7, k8, _⟩ := gs
    clear SK FS GS hS0
    obtain ⟨wA, rfl⟩ : ∃ W : World, W = wq := ⟨_, rfl⟩
    have bA : Below w.heap.size w wA := gb
    go_wp2_with fail
    have SK := hide (fun (zX zY : World) (zh : (Below w.heap.size w zX ∧ zX.cell? ⟨w.heap.size, 0, none⟩ = some (.int .u32 a) ∧ zX.cell? ⟨w.heap.size, 1, none⟩ = some (.int .u16 b) ∧ zX.cell? ⟨w.heap.size, 2, none⟩ = some (.int .u32 c) ∧ zX.cell? ⟨w.heap.size, 3, none⟩ = some (.int .u16 d) ∧ True)) (zb : Below zX.heap.size zX zY) => (show (Below w.heap.size w zY ∧ zY.cell? ⟨w.heap.size, 0, none⟩ = some (.int .u32 a) ∧ zY.cell? ⟨w.heap.size, 1, none⟩ = some (.int .u16 b) ∧ zY.cell? ⟨w.heap.size, 2, none⟩ = some (.int .u32 c) ∧ zY.cell? ⟨w.heap.size, 3, none⟩ = some (.int .u16 d) ∧ True) from ⟨bstep zh.1 zb, cellAt zb zh.2.1, cellAt zb zh.2.2.1, cellAt zb zh.2.2.2.1, cellAt zb zh.2.2.2.2.1, trivial⟩))
    have FS := hide (fun (zX : World) (zh : (Below w.heap.size w zX ∧ zX.cell? ⟨w.heap.size, 0, none⟩ = some (.int .u32 a) ∧ zX.cell? ⟨w.heap.size, 1, none⟩ = some (.int .u16 b) ∧ zX.cell? ⟨w.heap.size, 2, none⟩ = some (.int .u32 c) ∧ zX.cell? ⟨w.heap.size, 3, none⟩ = some (.int .u16 d) ∧ True)) => zh.1)
    have GS := hide (fun (zX : World) (zh : (Below w.heap.size w zX ∧ zX.cell? ⟨w.heap.size, 0, none⟩ = some (.int .u32 a) ∧ zX.cell? ⟨w.heap.size, 1, none⟩ = some (.int .u16 b) ∧ zX.cell? ⟨w.heap.size, 2, none⟩ = some (.int .u32 c) ∧ zX.cell? ⟨w.heap.size, 3, none⟩ = some (.int .u16 d) ∧ True)) => zh)
    have hS0 : (Below w.heap.size w wA ∧ wA.cell? ⟨w.heap.size, 0, none⟩ = some (.int .u32 a) ∧ wA.cell? ⟨w.heap.size, 1, none⟩ = some (.int .u16 b) ∧ wA.cell? ⟨w.heap.size, 2, none⟩ = some (.int .u32 c) ∧ wA.cell? ⟨w.heap.size, 3, none⟩ = some (.int .u16 d) ∧ True) := ⟨(by (repeat' (first | with_reducible exact bA | with_reducible exact Below.refl _ _ | with_reducible refine Below.setCell ?_ (by first | exact Nat.le_refl _ | (dsimp only; omega)) _ | with_reducible refine bstep ?_ (fresh_below _ _) | with_reducible refine Below.drew ?_))), g0, g1, g2, g3, trivial⟩
    go_region_held_law (fun w' => (Below w.heap.size w w' ∧ w'.cell? ⟨w.heap.size, 0, none⟩ = some (.int .u32 a) ∧ w'.cell? ⟨w.heap.size, 1, none⟩ = some (.int .u16 b) ∧ w'.cell? ⟨w.heap.size, 2, none⟩ = some (.int .u32 c) ∧ w'.cell? ⟨w.heap.size, 3, none⟩ = some (.int .u16 d) ∧ True)) (first | assumption | exact SK.out _ _ hS0 (Below.refl _ _).drew | exact SK.out _ _ hS0 (fresh_below _ _).drew | exact SK.out _ _ (by assumption) (fresh_below _ _) | (refine SK.out _ _ ?_ (by assumption); assumption))
      (first | (go_at_call 74; (with_reducible refine (C4.out _).mono ?_); rintro e wq ⟨rfl, bq⟩))
    all_goals
      go_wp2
      go_ret2
      exact ⟨rfl, (by first | exact FS.out _ (by assumption) | exact bstep (FS.out _ (by assumption)) (fresh_below _ _) | exact bstep (bstep (FS.out _ (by assumption)) (fresh_below _ _)) (fresh_below _ _))⟩

set_option maxRecDepth 100000 in
set_option maxHeartbeats 4000000 in
theorem rn_Apply_udp (a b c d : Int) (x0 x1 x2 x3 x4 x5 x6 x8 : Int) (x7 : Bool) (h0 h1 h3 h4 h5 h6 : Int) (h2 : Bool) (o l : ByteArray) (y : Int) (s : ByteArray) (t1 t2 : ByteArray) (hr : ¬ x8 < 2) (hs : s.size ≤ 140737488351232) (h20 : 20 ≤ s.size) (hy : 0 ≤ y ∧ y ≤ 255) (e0 : (((s[0]'(by omega)).toNat : Nat) : Int) = y) (ho : y % 16 * 4 ≤ s.size) (hz : t1.size + t2.size ≤ 1000000) (hp : x0 = 17) (w : World)
    (c1 : ∀ W, Calls Tryz.prog 57 #[.string s] W (Ret (.tuple #[.agg #[.int .u8 x0, .int .u32 x1, .int .u16 x2, .int .u32 x3, .int .u16 x4, .int .i64 x5, .int .u8 x6, .bool x7, .int .u8 x8], .int .i64 0]) W))
    (c2 : ∀ W, Calls Tryz.prog 58 #[.string s] W (Ret (.tuple #[.agg #[.int .u8 h0, .int .u16 h1, .bool h2, .int .u8 h3, .int .u8 h4, .int .u32 h5, .int .u32 h6, .string o], .string l, .int .i64 0]) W))
    (c3 : ∀ W, Calls Tryz.prog 73 #[.string (s.extract 0 (y % 16 * 4).toNat), .agg #[.int .u32 a, .int .u16 b, .int .u32 c, .int .u16 d]] W (Ret (.string t1) W))
    (c4 : ∀ W, Calls Tryz.prog 74 #[.string l, .string (s.extract 12 20), .agg #[.int .u32 a, .int .u16 b, .int .u32 c, .int .u16 d], .int .i64 6] W (Ret (.string t2) W)) :
    Calls Tryz.prog 35 #[.string s, .agg #[.int .u32 a, .int .u16 b, .int .u32 c, .int .u16 d]] w (Ret (.tuple #[.string (t1 ++ t2), .int .i64 0]) w) := by
  subst hp
  have i2 : (20 : Int) ≤ (s.size : Int) := by omega
  have i3 : (t1 ++ t2).size ≤ 1000000 := by rw [ByteArray.size_append]; exact hz
  have i4 : (0 : Int) < (s.size : Int) := by omega
  have i5 : 0 < s.size := by omega
  have m5 : y.tmod 16 = y % 16 := Int.tmod_eq_emod_of_nonneg (by omega)
  have oZ : (0 : Int) ≤ y % 16 * 4 := by omega
  have kw : IntKind.i64.wrap (y % 16 * 4) = y % 16 * 4 := IntWalk.i64_in _ (by omega)
  have C1 := hide c1; have C2 := hide c2; have C3 := hide c3
  clear c1 c2 c3
  have C4 := hide c4
  clear c4
  go_enter Tryz.func35, Tryz.ntmps35
  have d0 := Cells.new w #[.int .u32 a, .int .u16 b, .int .u32 c, .int .u16 d] 39
  go_wp2_with fail
  (with_reducible refine (C1.out _).mono ?_)
  rintro e w1 ⟨rfl, b1⟩
  have d1 := Cells.alloc (Cells.below b1 d0) (.cells #[.int .u8 17, .int .u32 x1, .int .u16 x2, .int .u32 x3, .int .u16 x4, .int .i64 x5, .int .u8 x6, .bool x7, .int .u8 x8] 120)
  have e1 := Cells.new w1 #[.int .u8 17, .int .u32 x1, .int .u16 x2, .int .u32 x3, .int .u16 x4, .int .i64 x5, .int .u8 x6, .bool x7, .int .u8 x8] 120
  obtain ⟨xe1_0, xe1_1, xe1_2, xe1_3, xe1_4, xe1_5, xe1_6, xe1_7, xe1_8⟩ := e1.x9
  replace b1 : Below w.heap.size w (w1.alloc (.cells #[.int .u8 17, .int .u32 x1, .int .u16 x2, .int .u32 x3, .int .u16 x4, .int .i64 x5, .int .u8 x6, .bool x7, .int .u8 x8] 120)) := bstep (bstep (fresh_below _ _) b1) (fresh_below _ _)
  go_wp2_with fail
  (with_reducible refine (C2.out _).mono ?_)
  rintro e w2 ⟨rfl, b2⟩
  have d2 := Cells.alloc (Cells.below b2 d1) (.cells #[.int .u8 h0, .int .u16 h1, .bool h2, .int .u8 h3, .int .u8 h4, .int .u32 h5, .int .u32 h6, .string o] 50)
  have e2 := Cells.alloc (Cells.below b2 e1) (.cells #[.int .u8 h0, .int .u16 h1, .bool h2, .int .u8 h3, .int .u8 h4, .int .u32 h5, .int .u32 h6, .string o] 50)
  replace b2 : Below w.heap.size w (w2.alloc (.cells #[.int .u8 h0, .int .u16 h1, .bool h2, .int .u8 h3, .int .u8 h4, .int .u32 h5, .int .u32 h6, .string o] 50)) := bstep (bstep b1 b2) (fresh_below _ _)
  clear d0 d1 e1 b1 xe1_0 xe1_1 xe1_2 xe1_3 xe1_4 xe1_5 xe1_6 xe1_7 xe1_8
  have D2 := hide d2; have E2 := hide e2; have B2 := hide b2
  clear d2 e2 b2
  go_wp2_with fail
  have d2 := D2.out; have e2 := E2.out; have b2 := B2.out
  clear D2 E2 B2
  generalize (w2.alloc (.cells #[.int .u8 h0, .int .u16 h1, .bool h2, .int .u8 h3, .int .u8 h4, .int .u32 h5, .int .u32 h6, .string o] 50)) = w3 at *
  have SK := hide (fun (zX zY : World) (zh : (Below w.heap.size w zX ∧ zX.cell? ⟨w.heap.size, 0, none⟩ = some (.int .u32 a) ∧ zX.cell? ⟨w.heap.size, 1, none⟩ = some (.int .u16 b) ∧ zX.cell? ⟨w.heap.size, 2, none⟩ = some (.int .u32 c) ∧ zX.cell? ⟨w.heap.size, 3, none⟩ = some (.int .u16 d) ∧ zX.cell? ⟨w1.heap.size, 0, none⟩ = some (.int .u8 17) ∧ zX.cell? ⟨w1.heap.size, 1, none⟩ = some (.int .u32 x1) ∧ zX.cell? ⟨w1.heap.size, 2, none⟩ = some (.int .u16 x2) ∧ zX.cell? ⟨w1.heap.size, 3, none⟩ = some (.int .u32 x3) ∧ zX.cell? ⟨w1.heap.size, 4, none⟩ = some (.int .u16 x4) ∧ zX.cell? ⟨w1.heap.size, 5, none⟩ = some (.int .i64 x5) ∧ zX.cell? ⟨w1.heap.size, 6, none⟩ = some (.int .u8 x6) ∧ zX.cell? ⟨w1.heap.size, 7, none⟩ = some (.bool x7) ∧ zX.cell? ⟨w1.heap.size, 8, none⟩ = some (.int .u8 x8) ∧ True)) (zb : Below zX.heap.size zX zY) => (show (Below w.heap.size w zY ∧ zY.cell? ⟨w.heap.size, 0, none⟩ = some (.int .u32 a) ∧ zY.cell? ⟨w.heap.size, 1, none⟩ = some (.int .u16 b) ∧ zY.cell? ⟨w.heap.size, 2, none⟩ = some (.int .u32 c) ∧ zY.cell? ⟨w.heap.size, 3, none⟩ = some (.int .u16 d) ∧ zY.cell? ⟨w1.heap.size, 0, none⟩ = some (.int .u8 17) ∧ zY.cell? ⟨w1.heap.size, 1, none⟩ = some (.int .u32 x1) ∧ zY.cell? ⟨w1.heap.size, 2, none⟩ = some (.int .u16 x2) ∧ zY.cell? ⟨w1.heap.size, 3, none⟩ = some (.int .u32 x3) ∧ zY.cell? ⟨w1.heap.size, 4, none⟩ = some (.int .u16 x4) ∧ zY.cell? ⟨w1.heap.size, 5, none⟩ = some (.int .i64 x5) ∧ zY.cell? ⟨w1.heap.size, 6, none⟩ = some (.int .u8 x6) ∧ zY.cell? ⟨w1.heap.size, 7, none⟩ = some (.bool x7) ∧ zY.cell? ⟨w1.heap.size, 8, none⟩ = some (.int .u8 x8) ∧ True) from ⟨bstep zh.1 zb, cellAt zb zh.2.1, cellAt zb zh.2.2.1, cellAt zb zh.2.2.2.1, cellAt zb zh.2.2.2.2.1, cellAt zb zh.2.2.2.2.2.1, cellAt zb zh.2.2.2.2.2.2.1, cellAt zb zh.2.2.2.2.2.2.2.1, cellAt zb zh.2.2.2.2.2.2.2.2.1, cellAt zb zh.2.2.2.2.2.2.2.2.2.1, cellAt zb zh.2.2.2.2.2.2.2.2.2.2.1, cellAt zb zh.2.2.2.2.2.2.2.2.2.2.2.1, cellAt zb zh.2.2.2.2.2.2.2.2.2.2.2.2.1, cellAt zb zh.2.2.2.2.2.2.2.2.2.2.2.2.2.1, trivial⟩))
  have FS := hide (fun (zX : World) (zh : (Below w.heap.size w zX ∧ zX.cell? ⟨w.heap.size, 0, none⟩ = some (.int .u32 a) ∧ zX.cell? ⟨w.heap.size, 1, none⟩ = some (.int .u16 b) ∧ zX.cell? ⟨w.heap.size, 2, none⟩ = some (.int .u32 c) ∧ zX.cell? ⟨w.heap.size, 3, none⟩ = some (.int .u16 d) ∧ zX.cell? ⟨w1.heap.size, 0, none⟩ = some (.int .u8 17) ∧ zX.cell? ⟨w1.heap.size, 1, none⟩ = some (.int .u32 x1) ∧ zX.cell? ⟨w1.heap.size, 2, none⟩ = some (.int .u16 x2) ∧ zX.cell? ⟨w1.heap.size, 3, none⟩ = some (.int .u32 x3) ∧ zX.cell? ⟨w1.heap.size, 4, none⟩ = some (.int .u16 x4) ∧ zX.cell? ⟨w1.heap.size, 5, none⟩ = some (.int .i64 x5) ∧ zX.cell? ⟨w1.heap.size, 6, none⟩ = some (.int .u8 x6) ∧ zX.cell? ⟨w1.heap.size, 7, none⟩ = some (.bool x7) ∧ zX.cell? ⟨w1.heap.size, 8, none⟩ = some (.int .u8 x8) ∧ True)) => zh.1)
  have GS := hide (fun (zX : World) (zh : (Below w.heap.size w zX ∧ zX.cell? ⟨w.heap.size, 0, none⟩ = some (.int .u32 a) ∧ zX.cell? ⟨w.heap.size, 1, none⟩ = some (.int .u16 b) ∧ zX.cell? ⟨w.heap.size, 2, none⟩ = some (.int .u32 c) ∧ zX.cell? ⟨w.heap.size, 3, none⟩ = some (.int .u16 d) ∧ zX.cell? ⟨w1.heap.size, 0, none⟩ = some (.int .u8 17) ∧ zX.cell? ⟨w1.heap.size, 1, none⟩ = some (.int .u32 x1) ∧ zX.cell? ⟨w1.heap.size, 2, none⟩ = some (.int .u16 x2) ∧ zX.cell? ⟨w1.heap.size, 3, none⟩ = some (.int .u32 x3) ∧ zX.cell? ⟨w1.heap.size, 4, none⟩ = some (.int .u16 x4) ∧ zX.cell? ⟨w1.heap.size, 5, none⟩ = some (.int .i64 x5) ∧ zX.cell? ⟨w1.heap.size, 6, none⟩ = some (.int .u8 x6) ∧ zX.cell? ⟨w1.heap.size, 7, none⟩ = some (.bool x7) ∧ zX.cell? ⟨w1.heap.size, 8, none⟩ = some (.int .u8 x8) ∧ True)) => zh)
  have hS0 : (Below w.heap.size w w3 ∧ w3.cell? ⟨w.heap.size, 0, none⟩ = some (.int .u32 a) ∧ w3.cell? ⟨w.heap.size, 1, none⟩ = some (.int .u16 b) ∧ w3.cell? ⟨w.heap.size, 2, none⟩ = some (.int .u32 c) ∧ w3.cell? ⟨w.heap.size, 3, none⟩ = some (.int .u16 d) ∧ w3.cell? ⟨w1.heap.size, 0, none⟩ = some (.int .u8 17) ∧ w3.cell? ⟨w1.heap.size, 1, none⟩ = some (.int .u32 x1) ∧ w3.cell? ⟨w1.heap.size, 2, none⟩ = some (.int .u16 x2) ∧ w3.cell? ⟨w1.heap.size, 3, none⟩ = some (.int .u32 x3) ∧ w3.cell? ⟨w1.heap.size, 4, none⟩ = some (.int .u16 x4) ∧ w3.cell? ⟨w1.heap.size, 5, none⟩ = some (.int .i64 x5) ∧ w3.cell? ⟨w1.heap.size, 6, none⟩ = some (.int .u8 x6) ∧ w3.cell? ⟨w1.heap.size, 7, none⟩ = some (.bool x7) ∧ w3.cell? ⟨w1.heap.size, 8, none⟩ = some (.int .u8 x8) ∧ True) := ⟨(by (repeat' (first | with_reducible exact b2 | with_reducible exact Below.refl _ _ | with_reducible refine Below.setCell ?_ (by first | exact Nat.le_refl _ | (dsimp only; omega)) _ | with_reducible refine bstep ?_ (fresh_below _ _) | with_reducible refine Below.drew ?_))), d2.at_ 0, d2.at_ 1, d2.at_ 2, d2.at_ 3, e2.at_ 0, e2.at_ 1, e2.at_ 2, e2.at_ 3, e2.at_ 4, e2.at_ 5, e2.at_ 6, e2.at_ 7, e2.at_ 8, trivial⟩
  go_region_held_law (fun w' => (Below w.heap.size w w' ∧ w'.cell? ⟨w.heap.size, 0, none⟩ = some (.int .u32 a) ∧ w'.cell? ⟨w.heap.size, 1, none⟩ = some (.int .u16 b) ∧ w'.cell? ⟨w.heap.size, 2, none⟩ = some (.int .u32 c) ∧ w'.cell? ⟨w.heap.size, 3, none⟩ = some (.int .u16 d) ∧ w'.cell? ⟨w1.heap.size, 0, none⟩ = some (.int .u8 17) ∧ w'.cell? ⟨w1.heap.size, 1, none⟩ = some (.int .u32 x1) ∧ w'.cell? ⟨w1.heap.size, 2, none⟩ = some (.int .u16 x2) ∧ w'.cell? ⟨w1.heap.size, 3, none⟩ = some (.int .u32 x3) ∧ w'.cell? ⟨w1.heap.size, 4, none⟩ = some (.int .u16 x4) ∧ w'.cell? ⟨w1.heap.size, 5, none⟩ = some (.int .i64 x5) ∧ w'.cell? ⟨w1.heap.size, 6, none⟩ = some (.int .u8 x6) ∧ w'.cell? ⟨w1.heap.size, 7, none⟩ = some (.bool x7) ∧ w'.cell? ⟨w1.heap.size, 8, none⟩ = some (.int .u8 x8) ∧ True)) (first | assumption | exact SK.out _ _ hS0 (Below.refl _ _).drew | exact SK.out _ _ hS0 (fresh_below _ _).drew | exact SK.out _ _ (by assumption) (fresh_below _ _) | (refine SK.out _ _ ?_ (by assumption); assumption))
    (first | (go_at_call 73; (with_reducible refine (C3.out _).mono ?_); rintro e wq ⟨rfl, bq⟩))
  all_goals
    have gs := GS.out _ (by assumption)
    obtain ⟨gb, g0, g1, g2, g3, k0, k1, k2, k3, k4, k5, k6, k7, k8, _⟩ := gs
    clear SK FS GS hS0
    obtain ⟨wA, rfl⟩ : ∃ W : World, W = wq := ⟨_, rfl⟩
    have bA : Below w.heap.size w wA := gb
    go_wp2_with fail
    have SK := hide (fun (zX zY : World) (zh : (Below w.heap.size w zX ∧ zX.cell? ⟨w.heap.size, 0, none⟩ = some (.int .u32 a) ∧ zX.cell? ⟨w.heap.size, 1, none⟩ = some (.int .u16 b) ∧ zX.cell? ⟨w.heap.size, 2, none⟩ = some (.int .u32 c) ∧ zX.cell? ⟨w.heap.size, 3, none⟩ = some (.int .u16 d) ∧ True)) (zb : Below zX.heap.size zX zY) => (show (Below w.heap.size w zY ∧ zY.cell? ⟨w.heap.size, 0, none⟩ = some (.int .u32 a) ∧ zY.cell? ⟨w.heap.size, 1, none⟩ = some (.int .u16 b) ∧ zY.cell? ⟨w.heap.size, 2, none⟩ = some (.int .u32 c) ∧ zY.cell? ⟨w.heap.size, 3, none⟩ = some (.int .u16 d) ∧ True) from ⟨bstep zh.1 zb, cellAt zb zh.2.1, cellAt zb zh.2.2.1, cellAt zb zh.2.2.2.1, cellAt zb zh.2.2.2.2.1, trivial⟩))
    have FS := hide (fun (zX : World) (zh : (Below w.heap.size w zX ∧ zX.cell? ⟨w.heap.size, 0, none⟩ = some (.int .u32 a) ∧ zX.cell? ⟨w.heap.size, 1, none⟩ = some (.int .u16 b) ∧ zX.cell? ⟨w.heap.size, 2, none⟩ = some (.int .u32 c) ∧ zX.cell? ⟨w.heap.size, 3, none⟩ = some (.int .u16 d) ∧ True)) => zh.1)
    have GS := hide (fun (zX : World) (zh : (Below w.heap.size w zX ∧ zX.cell? ⟨w.heap.size, 0, none⟩ = some (.int .u32 a) ∧ zX.cell? ⟨w.heap.size, 1, none⟩ = some (.int .u16 b) ∧ zX.cell? ⟨w.heap.size, 2, none⟩ = some (.int .u32 c) ∧ zX.cell? ⟨w.heap.size, 3, none⟩ = some (.int .u16 d) ∧ True)) => zh)
    have hS0 : (Below w.heap.size w wA ∧ wA.cell? ⟨w.heap.size, 0, none⟩ = some (.int .u32 a) ∧ wA.cell? ⟨w.heap.size, 1, none⟩ = some (.int .u16 b) ∧ wA.cell? ⟨w.heap.size, 2, none⟩ = some (.int .u32 c) ∧ wA.cell? ⟨w.heap.size, 3, none⟩ = some (.int .u16 d) ∧ True) := ⟨(by (repeat' (first | with_reducible exact bA | with_reducible exact Below.refl _ _ | with_reducible refine Below.setCell ?_ (by first | exact Nat.le_refl _ | (dsimp only; omega)) _ | with_reducible refine bstep ?_ (fresh_below _ _) | with_reducible refine Below.drew ?_))), g0, g1, g2, g3, trivial⟩
    go_region_held_law (fun w' => (Below w.heap.size w w' ∧ w'.cell? ⟨w.heap.size, 0, none⟩ = some (.int .u32 a) ∧ w'.cell? ⟨w.heap.size, 1, none⟩ = some (.int .u16 b) ∧ w'.cell? ⟨w.heap.size, 2, none⟩ = some (.int .u32 c) ∧ w'.cell? ⟨w.heap.size, 3, none⟩ = some (.int .u16 d) ∧ True)) (first | assumption | exact SK.out _ _ hS0 (Below.refl _ _).drew | exact SK.out _ _ hS0 (fresh_below _ _).drew | exact SK.out _ _ (by assumption) (fresh_below _ _) | (refine SK.out _ _ ?_ (by assumption); assumption))
      (first | (go_at_call 74; (with_reducible refine (C4.out _).mono ?_); rintro e wq ⟨rfl, bq⟩))
    all_goals
      go_wp2
      go_ret2
      exact ⟨rfl, (by first | exact FS.out _ (by assumption) | exact bstep (FS.out _ (by assumption)) (fresh_below _ _) | exact bstep (bstep (FS.out _ (by assumption)) (fresh_below _ _)) (fresh_below _ _))⟩

set_option maxRecDepth 100000 in
set_option maxHeartbeats 4000000 in
theorem rn_Apply_err (a b c d : Int) (x0 x1 x2 x3 x4 x5 x6 x8 : Int) (x7 : Bool) (h0 h1 h3 h4 h5 h6 : Int) (h2 : Bool) (o l : ByteArray) (y : Int) (s : ByteArray) (t1 t2 : ByteArray) (hr : ¬ x8 < 2) (hs : s.size ≤ 140737488351232) (h20 : 20 ≤ s.size) (hy : 0 ≤ y ∧ y ≤ 255) (e0 : (((s[0]'(by omega)).toNat : Nat) : Int) = y) (ho : y % 16 * 4 ≤ s.size) (hz : t1.size + t2.size ≤ 1000000) (hp : x0 ≠ 6 ∧ x0 ≠ 17) (hk : x5 = 3) (ht : t2 = l) (w : World)
    (c1 : ∀ W, Calls Tryz.prog 57 #[.string s] W (Ret (.tuple #[.agg #[.int .u8 x0, .int .u32 x1, .int .u16 x2, .int .u32 x3, .int .u16 x4, .int .i64 x5, .int .u8 x6, .bool x7, .int .u8 x8], .int .i64 0]) W))
    (c2 : ∀ W, Calls Tryz.prog 58 #[.string s] W (Ret (.tuple #[.agg #[.int .u8 h0, .int .u16 h1, .bool h2, .int .u8 h3, .int .u8 h4, .int .u32 h5, .int .u32 h6, .string o], .string l, .int .i64 0]) W))
    (c3 : ∀ W, Calls Tryz.prog 73 #[.string (s.extract 0 (y % 16 * 4).toNat), .agg #[.int .u32 a, .int .u16 b, .int .u32 c, .int .u16 d]] W (Ret (.string t1) W)) :
    Calls Tryz.prog 35 #[.string s, .agg #[.int .u32 a, .int .u16 b, .int .u32 c, .int .u16 d]] w (Ret (.tuple #[.string (t1 ++ t2), .int .i64 0]) w) := by
  have q1 : (x0 == 6) = false := by simpa using hp.1
  have q2 : (x0 == 17) = false := by simpa using hp.2
  subst hk
  subst ht
  have i2 : (20 : Int) ≤ (s.size : Int) := by omega
  have i3 : (t1 ++ t2).size ≤ 1000000 := by rw [ByteArray.size_append]; exact hz
  have i4 : (0 : Int) < (s.size : Int) := by omega
  have i5 : 0 < s.size := by omega
  have m5 : y.tmod 16 = y % 16 := Int.tmod_eq_emod_of_nonneg (by omega)
  have oZ : (0 : Int) ≤ y % 16 * 4 := by omega
  have kw : IntKind.i64.wrap (y % 16 * 4) = y % 16 * 4 := IntWalk.i64_in _ (by omega)
  have C1 := hide c1; have C2 := hide c2; have C3 := hide c3
  clear c1 c2 c3
  go_enter Tryz.func35, Tryz.ntmps35
  have d0 := Cells.new w #[.int .u32 a, .int .u16 b, .int .u32 c, .int .u16 d] 39
  go_wp2_with fail
  (with_reducible refine (C1.out _).mono ?_)
  rintro e w1 ⟨rfl, b1⟩
  have d1 := Cells.alloc (Cells.below b1 d0) (.cells #[.int .u8 x0, .int .u32 x1, .int .u16 x2, .int .u32 x3, .int .u16 x4, .int .i64 3, .int .u8 x6, .bool x7, .int .u8 x8] 120)
  have e1 := Cells.new w1 #[.int .u8 x0, .int .u32 x1, .int .u16 x2, .int .u32 x3, .int .u16 x4, .int .i64 3, .int .u8 x6, .bool x7, .int .u8 x8] 120
  obtain ⟨xe1_0, xe1_1, xe1_2, xe1_3, xe1_4, xe1_5, xe1_6, xe1_7, xe1_8⟩ := e1.x9
  replace b1 : Below w.heap.size w (w1.alloc (.cells #[.int .u8 x0, .int .u32 x1, .int .u16 x2, .int .u32 x3, .int .u16 x4, .int .i64 3, .int .u8 x6, .bool x7, .int .u8 x8] 120)) := bstep (bstep (fresh_below _ _) b1) (fresh_below _ _)
  go_wp2_with fail
  (with_reducible refine (C2.out _).mono ?_)
  rintro e w2 ⟨rfl, b2⟩
  have d2 := Cells.alloc (Cells.below b2 d1) (.cells #[.int .u8 h0, .int .u16 h1, .bool h2, .int .u8 h3, .int .u8 h4, .int .u32 h5, .int .u32 h6, .string o] 50)
  have e2 := Cells.alloc (Cells.below b2 e1) (.cells #[.int .u8 h0, .int .u16 h1, .bool h2, .int .u8 h3, .int .u8 h4, .int .u32 h5, .int .u32 h6, .string o] 50)
  replace b2 : Below w.heap.size w (w2.alloc (.cells #[.int .u8 h0, .int .u16 h1, .bool h2, .int .u8 h3, .int .u8 h4, .int .u32 h5, .int .u32 h6, .string o] 50)) := bstep (bstep b1 b2) (fresh_below _ _)
  clear d0 d1 e1 b1 xe1_0 xe1_1 xe1_2 xe1_3 xe1_4 xe1_5 xe1_6 xe1_7 xe1_8
  have D2 := hide d2; have E2 := hide e2; have B2 := hide b2
  clear d2 e2 b2
  go_wp2_with fail
  have d2 := D2.out; have e2 := E2.out; have b2 := B2.out
  clear D2 E2 B2
  generalize (w2.alloc (.cells #[.int .u8 h0, .int .u16 h1, .bool h2, .int .u8 h3, .int .u8 h4, .int .u32 h5, .int .u32 h6, .string o] 50)) = w3 at *
  have SK := hide (fun (zX zY : World) (zh : (Below w.heap.size w zX ∧ zX.cell? ⟨w.heap.size, 0, none⟩ = some (.int .u32 a) ∧ zX.cell? ⟨w.heap.size, 1, none⟩ = some (.int .u16 b) ∧ zX.cell? ⟨w.heap.size, 2, none⟩ = some (.int .u32 c) ∧ zX.cell? ⟨w.heap.size, 3, none⟩ = some (.int .u16 d) ∧ zX.cell? ⟨w1.heap.size, 0, none⟩ = some (.int .u8 x0) ∧ zX.cell? ⟨w1.heap.size, 1, none⟩ = some (.int .u32 x1) ∧ zX.cell? ⟨w1.heap.size, 2, none⟩ = some (.int .u16 x2) ∧ zX.cell? ⟨w1.heap.size, 3, none⟩ = some (.int .u32 x3) ∧ zX.cell? ⟨w1.heap.size, 4, none⟩ = some (.int .u16 x4) ∧ zX.cell? ⟨w1.heap.size, 5, none⟩ = some (.int .i64 3) ∧ zX.cell? ⟨w1.heap.size, 6, none⟩ = some (.int .u8 x6) ∧ zX.cell? ⟨w1.heap.size, 7, none⟩ = some (.bool x7) ∧ zX.cell? ⟨w1.heap.size, 8, none⟩ = some (.int .u8 x8) ∧ True)) (zb : Below zX.heap.size zX zY) => (show (Below w.heap.size w zY ∧ zY.cell? ⟨w.heap.size, 0, none⟩ = some (.int .u32 a) ∧ zY.cell? ⟨w.heap.size, 1, none⟩ = some (.int .u16 b) ∧ zY.cell? ⟨w.heap.size, 2, none⟩ = some (.int .u32 c) ∧ zY.cell? ⟨w.heap.size, 3, none⟩ = some (.int .u16 d) ∧ zY.cell? ⟨w1.heap.size, 0, none⟩ = some (.int .u8 x0) ∧ zY.cell? ⟨w1.heap.size, 1, none⟩ = some (.int .u32 x1) ∧ zY.cell? ⟨w1.heap.size, 2, none⟩ = some (.int .u16 x2) ∧ zY.cell? ⟨w1.heap.size, 3, none⟩ = some (.int .u32 x3) ∧ zY.cell? ⟨w1.heap.size, 4, none⟩ = some (.int .u16 x4) ∧ zY.cell? ⟨w1.heap.size, 5, none⟩ = some (.int .i64 3) ∧ zY.cell? ⟨w1.heap.size, 6, none⟩ = some (.int .u8 x6) ∧ zY.cell? ⟨w1.heap.size, 7, none⟩ = some (.bool x7) ∧ zY.cell? ⟨w1.heap.size, 8, none⟩ = some (.int .u8 x8) ∧ True) from ⟨bstep zh.1 zb, cellAt zb zh.2.1, cellAt zb zh.2.2.1, cellAt zb zh.2.2.2.1, cellAt zb zh.2.2.2.2.1, cellAt zb zh.2.2.2.2.2.1, cellAt zb zh.2.2.2.2.2.2.1, cellAt zb zh.2.2.2.2.2.2.2.1, cellAt zb zh.2.2.2.2.2.2.2.2.1, cellAt zb zh.2.2.2.2.2.2.2.2.2.1, cellAt zb zh.2.2.2.2.2.2.2.2.2.2.1, cellAt zb zh.2.2.2.2.2.2.2.2.2.2.2.1, cellAt zb zh.2.2.2.2.2.2.2.2.2.2.2.2.1, cellAt zb zh.2.2.2.2.2.2.2.2.2.2.2.2.2.1, trivial⟩))
  have FS := hide (fun (zX : World) (zh : (Below w.heap.size w zX ∧ zX.cell? ⟨w.heap.size, 0, none⟩ = some (.int .u32 a) ∧ zX.cell? ⟨w.heap.size, 1, none⟩ = some (.int .u16 b) ∧ zX.cell? ⟨w.heap.size, 2, none⟩ = some (.int .u32 c) ∧ zX.cell? ⟨w.heap.size, 3, none⟩ = some (.int .u16 d) ∧ zX.cell? ⟨w1.heap.size, 0, none⟩ = some (.int .u8 x0) ∧ zX.cell? ⟨w1.heap.size, 1, none⟩ = some (.int .u32 x1) ∧ zX.cell? ⟨w1.heap.size, 2, none⟩ = some (.int .u16 x2) ∧ zX.cell? ⟨w1.heap.size, 3, none⟩ = some (.int .u32 x3) ∧ zX.cell? ⟨w1.heap.size, 4, none⟩ = some (.int .u16 x4) ∧ zX.cell? ⟨w1.heap.size, 5, none⟩ = some (.int .i64 3) ∧ zX.cell? ⟨w1.heap.size, 6, none⟩ = some (.int .u8 x6) ∧ zX.cell? ⟨w1.heap.size, 7, none⟩ = some (.bool x7) ∧ zX.cell? ⟨w1.heap.size, 8, none⟩ = some (.int .u8 x8) ∧ True)) => zh.1)
  have GS := hide (fun (zX : World) (zh : (Below w.heap.size w zX ∧ zX.cell? ⟨w.heap.size, 0, none⟩ = some (.int .u32 a) ∧ zX.cell? ⟨w.heap.size, 1, none⟩ = some (.int .u16 b) ∧ zX.cell? ⟨w.heap.size, 2, none⟩ = some (.int .u32 c) ∧ zX.cell? ⟨w.heap.size, 3, none⟩ = some (.int .u16 d) ∧ zX.cell? ⟨w1.heap.size, 0, none⟩ = some (.int .u8 x0) ∧ zX.cell? ⟨w1.heap.size, 1, none⟩ = some (.int .u32 x1) ∧ zX.cell? ⟨w1.heap.size, 2, none⟩ = some (.int .u16 x2) ∧ zX.cell? ⟨w1.heap.size, 3, none⟩ = some (.int .u32 x3) ∧ zX.cell? ⟨w1.heap.size, 4, none⟩ = some (.int .u16 x4) ∧ zX.cell? ⟨w1.heap.size, 5, none⟩ = some (.int .i64 3) ∧ zX.cell? ⟨w1.heap.size, 6, none⟩ = some (.int .u8 x6) ∧ zX.cell? ⟨w1.heap.size, 7, none⟩ = some (.bool x7) ∧ zX.cell? ⟨w1.heap.size, 8, none⟩ = some (.int .u8 x8) ∧ True)) => zh)
  have hS0 : (Below w.heap.size w w3 ∧ w3.cell? ⟨w.heap.size, 0, none⟩ = some (.int .u32 a) ∧ w3.cell? ⟨w.heap.size, 1, none⟩ = some (.int .u16 b) ∧ w3.cell? ⟨w.heap.size, 2, none⟩ = some (.int .u32 c) ∧ w3.cell? ⟨w.heap.size, 3, none⟩ = some (.int .u16 d) ∧ w3.cell? ⟨w1.heap.size, 0, none⟩ = some (.int .u8 x0) ∧ w3.cell? ⟨w1.heap.size, 1, none⟩ = some (.int .u32 x1) ∧ w3.cell? ⟨w1.heap.size, 2, none⟩ = some (.int .u16 x2) ∧ w3.cell? ⟨w1.heap.size, 3, none⟩ = some (.int .u32 x3) ∧ w3.cell? ⟨w1.heap.size, 4, none⟩ = some (.int .u16 x4) ∧ w3.cell? ⟨w1.heap.size, 5, none⟩ = some (.int .i64 3) ∧ w3.cell? ⟨w1.heap.size, 6, none⟩ = some (.int .u8 x6) ∧ w3.cell? ⟨w1.heap.size, 7, none⟩ = some (.bool x7) ∧ w3.cell? ⟨w1.heap.size, 8, none⟩ = some (.int .u8 x8) ∧ True) := ⟨(by (repeat' (first | with_reducible exact b2 | with_reducible exact Below.refl _ _ | with_reducible refine Below.setCell ?_ (by first | exact Nat.le_refl _ | (dsimp only; omega)) _ | with_reducible refine bstep ?_ (fresh_below _ _) | with_reducible refine Below.drew ?_))), d2.at_ 0, d2.at_ 1, d2.at_ 2, d2.at_ 3, e2.at_ 0, e2.at_ 1, e2.at_ 2, e2.at_ 3, e2.at_ 4, e2.at_ 5, e2.at_ 6, e2.at_ 7, e2.at_ 8, trivial⟩
  go_region_held_law (fun w' => (Below w.heap.size w w' ∧ w'.cell? ⟨w.heap.size, 0, none⟩ = some (.int .u32 a) ∧ w'.cell? ⟨w.heap.size, 1, none⟩ = some (.int .u16 b) ∧ w'.cell? ⟨w.heap.size, 2, none⟩ = some (.int .u32 c) ∧ w'.cell? ⟨w.heap.size, 3, none⟩ = some (.int .u16 d) ∧ w'.cell? ⟨w1.heap.size, 0, none⟩ = some (.int .u8 x0) ∧ w'.cell? ⟨w1.heap.size, 1, none⟩ = some (.int .u32 x1) ∧ w'.cell? ⟨w1.heap.size, 2, none⟩ = some (.int .u16 x2) ∧ w'.cell? ⟨w1.heap.size, 3, none⟩ = some (.int .u32 x3) ∧ w'.cell? ⟨w1.heap.size, 4, none⟩ = some (.int .u16 x4) ∧ w'.cell? ⟨w1.heap.size, 5, none⟩ = some (.int .i64 3) ∧ w'.cell? ⟨w1.heap.size, 6, none⟩ = some (.int .u8 x6) ∧ w'.cell? ⟨w1.heap.size, 7, none⟩ = some (.bool x7) ∧ w'.cell? ⟨w1.heap.size, 8, none⟩ = some (.int .u8 x8) ∧ True)) (first | assumption | exact SK.out _ _ hS0 (Below.refl _ _).drew | exact SK.out _ _ hS0 (fresh_below _ _).drew | exact SK.out _ _ (by assumption) (fresh_below _ _) | (refine SK.out _ _ ?_ (by assumption); assumption))
    (first | (go_at_call 73; (with_reducible refine (C3.out _).mono ?_); rintro e wq ⟨rfl, bq⟩))
  all_goals
    have gs := GS.out _ (by assumption)
    obtain ⟨gb, g0, g1, g2, g3, k0, k1, k2, k3, k4, k5, k6, k7, k8, _⟩ := gs
    clear SK FS GS hS0
    obtain ⟨wA, rfl⟩ : ∃ W : World, W = wq := ⟨_, rfl⟩
    have bA : Below w.heap.size w wA := gb
    go_wp2_with fail
    go_ret2
    exact ⟨rfl, bA⟩

set_option maxRecDepth 100000 in
set_option maxHeartbeats 4000000 in
theorem rn_Apply_ask (a b c d : Int) (x0 x1 x2 x3 x4 x5 x6 x8 : Int) (x7 : Bool) (h0 h1 h3 h4 h5 h6 : Int) (h2 : Bool) (o l : ByteArray) (y : Int) (s : ByteArray) (t1 t2 : ByteArray) (hr : ¬ x8 < 2) (hs : s.size ≤ 140737488351232) (h20 : 20 ≤ s.size) (hy : 0 ≤ y ∧ y ≤ 255) (e0 : (((s[0]'(by omega)).toNat : Nat) : Int) = y) (ho : y % 16 * 4 ≤ s.size) (hz : t1.size + t2.size ≤ 1000000) (hp : x0 ≠ 6 ∧ x0 ≠ 17) (hk : x5 ≠ 3) (hq : x7 = true) (w : World)
    (c1 : ∀ W, Calls Tryz.prog 57 #[.string s] W (Ret (.tuple #[.agg #[.int .u8 x0, .int .u32 x1, .int .u16 x2, .int .u32 x3, .int .u16 x4, .int .i64 x5, .int .u8 x6, .bool x7, .int .u8 x8], .int .i64 0]) W))
    (c2 : ∀ W, Calls Tryz.prog 58 #[.string s] W (Ret (.tuple #[.agg #[.int .u8 h0, .int .u16 h1, .bool h2, .int .u8 h3, .int .u8 h4, .int .u32 h5, .int .u32 h6, .string o], .string l, .int .i64 0]) W))
    (c3 : ∀ W, Calls Tryz.prog 73 #[.string (s.extract 0 (y % 16 * 4).toNat), .agg #[.int .u32 a, .int .u16 b, .int .u32 c, .int .u16 d]] W (Ret (.string t1) W))
    (c4 : ∀ W, Calls Tryz.prog 75 #[.string l, .int .u16 b] W (Ret (.string t2) W)) :
    Calls Tryz.prog 35 #[.string s, .agg #[.int .u32 a, .int .u16 b, .int .u32 c, .int .u16 d]] w (Ret (.tuple #[.string (t1 ++ t2), .int .i64 0]) w) := by
  have q1 : (x0 == 6) = false := by simpa using hp.1
  have q2 : (x0 == 17) = false := by simpa using hp.2
  have q3 : (x5 == 3) = false := by simpa using hk
  subst hq
  have i2 : (20 : Int) ≤ (s.size : Int) := by omega
  have i3 : (t1 ++ t2).size ≤ 1000000 := by rw [ByteArray.size_append]; exact hz
  have i4 : (0 : Int) < (s.size : Int) := by omega
  have i5 : 0 < s.size := by omega
  have m5 : y.tmod 16 = y % 16 := Int.tmod_eq_emod_of_nonneg (by omega)
  have oZ : (0 : Int) ≤ y % 16 * 4 := by omega
  have kw : IntKind.i64.wrap (y % 16 * 4) = y % 16 * 4 := IntWalk.i64_in _ (by omega)
  have C1 := hide c1; have C2 := hide c2; have C3 := hide c3
  clear c1 c2 c3
  have C4 := hide c4
  clear c4
  go_enter Tryz.func35, Tryz.ntmps35
  have d0 := Cells.new w #[.int .u32 a, .int .u16 b, .int .u32 c, .int .u16 d] 39
  go_wp2_with fail
  (with_reducible refine (C1.out _).mono ?_)
  rintro e w1 ⟨rfl, b1⟩
  have d1 := Cells.alloc (Cells.below b1 d0) (.cells #[.int .u8 x0, .int .u32 x1, .int .u16 x2, .int .u32 x3, .int .u16 x4, .int .i64 x5, .int .u8 x6, .bool true, .int .u8 x8] 120)
  have e1 := Cells.new w1 #[.int .u8 x0, .int .u32 x1, .int .u16 x2, .int .u32 x3, .int .u16 x4, .int .i64 x5, .int .u8 x6, .bool true, .int .u8 x8] 120
  obtain ⟨xe1_0, xe1_1, xe1_2, xe1_3, xe1_4, xe1_5, xe1_6, xe1_7, xe1_8⟩ := e1.x9
  replace b1 : Below w.heap.size w (w1.alloc (.cells #[.int .u8 x0, .int .u32 x1, .int .u16 x2, .int .u32 x3, .int .u16 x4, .int .i64 x5, .int .u8 x6, .bool true, .int .u8 x8] 120)) := bstep (bstep (fresh_below _ _) b1) (fresh_below _ _)
  go_wp2_with fail
  (with_reducible refine (C2.out _).mono ?_)
  rintro e w2 ⟨rfl, b2⟩
  have d2 := Cells.alloc (Cells.below b2 d1) (.cells #[.int .u8 h0, .int .u16 h1, .bool h2, .int .u8 h3, .int .u8 h4, .int .u32 h5, .int .u32 h6, .string o] 50)
  have e2 := Cells.alloc (Cells.below b2 e1) (.cells #[.int .u8 h0, .int .u16 h1, .bool h2, .int .u8 h3, .int .u8 h4, .int .u32 h5, .int .u32 h6, .string o] 50)
  replace b2 : Below w.heap.size w (w2.alloc (.cells #[.int .u8 h0, .int .u16 h1, .bool h2, .int .u8 h3, .int .u8 h4, .int .u32 h5, .int .u32 h6, .string o] 50)) := bstep (bstep b1 b2) (fresh_below _ _)
  clear d0 d1 e1 b1 xe1_0 xe1_1 xe1_2 xe1_3 xe1_4 xe1_5 xe1_6 xe1_7 xe1_8
  have D2 := hide d2; have E2 := hide e2; have B2 := hide b2
  clear d2 e2 b2
  go_wp2_with fail
  have d2 := D2.out; have e2 := E2.out; have b2 := B2.out
  clear D2 E2 B2
  generalize (w2.alloc (.cells #[.int .u8 h0, .int .u16 h1, .bool h2, .int .u8 h3, .int .u8 h4, .int .u32 h5, .int .u32 h6, .string o] 50)) = w3 at *
  have SK := hide (fun (zX zY : World) (zh : (Below w.heap.size w zX ∧ zX.cell? ⟨w.heap.size, 0, none⟩ = some (.int .u32 a) ∧ zX.cell? ⟨w.heap.size, 1, none⟩ = some (.int .u16 b) ∧ zX.cell? ⟨w.heap.size, 2, none⟩ = some (.int .u32 c) ∧ zX.cell? ⟨w.heap.size, 3, none⟩ = some (.int .u16 d) ∧ zX.cell? ⟨w1.heap.size, 0, none⟩ = some (.int .u8 x0) ∧ zX.cell? ⟨w1.heap.size, 1, none⟩ = some (.int .u32 x1) ∧ zX.cell? ⟨w1.heap.size, 2, none⟩ = some (.int .u16 x2) ∧ zX.cell? ⟨w1.heap.size, 3, none⟩ = some (.int .u32 x3) ∧ zX.cell? ⟨w1.heap.size, 4, none⟩ = some (.int .u16 x4) ∧ zX.cell? ⟨w1.heap.size, 5, none⟩ = some (.int .i64 x5) ∧ zX.cell? ⟨w1.heap.size, 6, none⟩ = some (.int .u8 x6) ∧ zX.cell? ⟨w1.heap.size, 7, none⟩ = some (.bool true) ∧ zX.cell? ⟨w1.heap.size, 8, none⟩ = some (.int .u8 x8) ∧ True)) (zb : Below zX.heap.size zX zY) => (show (Below w.heap.size w zY ∧ zY.cell? ⟨w.heap.size, 0, none⟩ = some (.int .u32 a) ∧ zY.cell? ⟨w.heap.size, 1, none⟩ = some (.int .u16 b) ∧ zY.cell? ⟨w.heap.size, 2, none⟩ = some (.int .u32 c) ∧ zY.cell? ⟨w.heap.size, 3, none⟩ = some (.int .u16 d) ∧ zY.cell? ⟨w1.heap.size, 0, none⟩ = some (.int .u8 x0) ∧ zY.cell? ⟨w1.heap.size, 1, none⟩ = some (.int .u32 x1) ∧ zY.cell? ⟨w1.heap.size, 2, none⟩ = some (.int .u16 x2) ∧ zY.cell? ⟨w1.heap.size, 3, none⟩ = some (.int .u32 x3) ∧ zY.cell? ⟨w1.heap.size, 4, none⟩ = some (.int .u16 x4) ∧ zY.cell? ⟨w1.heap.size, 5, none⟩ = some (.int .i64 x5) ∧ zY.cell? ⟨w1.heap.size, 6, none⟩ = some (.int .u8 x6) ∧ zY.cell? ⟨w1.heap.size, 7, none⟩ = some (.bool true) ∧ zY.cell? ⟨w1.heap.size, 8, none⟩ = some (.int .u8 x8) ∧ True) from ⟨bstep zh.1 zb, cellAt zb zh.2.1, cellAt zb zh.2.2.1, cellAt zb zh.2.2.2.1, cellAt zb zh.2.2.2.2.1, cellAt zb zh.2.2.2.2.2.1, cellAt zb zh.2.2.2.2.2.2.1, cellAt zb zh.2.2.2.2.2.2.2.1, cellAt zb zh.2.2.2.2.2.2.2.2.1, cellAt zb zh.2.2.2.2.2.2.2.2.2.1, cellAt zb zh.2.2.2.2.2.2.2.2.2.2.1, cellAt zb zh.2.2.2.2.2.2.2.2.2.2.2.1, cellAt zb zh.2.2.2.2.2.2.2.2.2.2.2.2.1, cellAt zb zh.2.2.2.2.2.2.2.2.2.2.2.2.2.1, trivial⟩))
  have FS := hide (fun (zX : World) (zh : (Below w.heap.size w zX ∧ zX.cell? ⟨w.heap.size, 0, none⟩ = some (.int .u32 a) ∧ zX.cell? ⟨w.heap.size, 1, none⟩ = some (.int .u16 b) ∧ zX.cell? ⟨w.heap.size, 2, none⟩ = some (.int .u32 c) ∧ zX.cell? ⟨w.heap.size, 3, none⟩ = some (.int .u16 d) ∧ zX.cell? ⟨w1.heap.size, 0, none⟩ = some (.int .u8 x0) ∧ zX.cell? ⟨w1.heap.size, 1, none⟩ = some (.int .u32 x1) ∧ zX.cell? ⟨w1.heap.size, 2, none⟩ = some (.int .u16 x2) ∧ zX.cell? ⟨w1.heap.size, 3, none⟩ = some (.int .u32 x3) ∧ zX.cell? ⟨w1.heap.size, 4, none⟩ = some (.int .u16 x4) ∧ zX.cell? ⟨w1.heap.size, 5, none⟩ = some (.int .i64 x5) ∧ zX.cell? ⟨w1.heap.size, 6, none⟩ = some (.int .u8 x6) ∧ zX.cell? ⟨w1.heap.size, 7, none⟩ = some (.bool true) ∧ zX.cell? ⟨w1.heap.size, 8, none⟩ = some (.int .u8 x8) ∧ True)) => zh.1)
  have GS := hide (fun (zX : World) (zh : (Below w.heap.size w zX ∧ zX.cell? ⟨w.heap.size, 0, none⟩ = some (.int .u32 a) ∧ zX.cell? ⟨w.heap.size, 1, none⟩ = some (.int .u16 b) ∧ zX.cell? ⟨w.heap.size, 2, none⟩ = some (.int .u32 c) ∧ zX.cell? ⟨w.heap.size, 3, none⟩ = some (.int .u16 d) ∧ zX.cell? ⟨w1.heap.size, 0, none⟩ = some (.int .u8 x0) ∧ zX.cell? ⟨w1.heap.size, 1, none⟩ = some (.int .u32 x1) ∧ zX.cell? ⟨w1.heap.size, 2, none⟩ = some (.int .u16 x2) ∧ zX.cell? ⟨w1.heap.size, 3, none⟩ = some (.int .u32 x3) ∧ zX.cell? ⟨w1.heap.size, 4, none⟩ = some (.int .u16 x4) ∧ zX.cell? ⟨w1.heap.size, 5, none⟩ = some (.int .i64 x5) ∧ zX.cell? ⟨w1.heap.size, 6, none⟩ = some (.int .u8 x6) ∧ zX.cell? ⟨w1.heap.size, 7, none⟩ = some (.bool true) ∧ zX.cell? ⟨w1.heap.size, 8, none⟩ = some (.int .u8 x8) ∧ True)) => zh)
  have hS0 : (Below w.heap.size w w3 ∧ w3.cell? ⟨w.heap.size, 0, none⟩ = some (.int .u32 a) ∧ w3.cell? ⟨w.heap.size, 1, none⟩ = some (.int .u16 b) ∧ w3.cell? ⟨w.heap.size, 2, none⟩ = some (.int .u32 c) ∧ w3.cell? ⟨w.heap.size, 3, none⟩ = some (.int .u16 d) ∧ w3.cell? ⟨w1.heap.size, 0, none⟩ = some (.int .u8 x0) ∧ w3.cell? ⟨w1.heap.size, 1, none⟩ = some (.int .u32 x1) ∧ w3.cell? ⟨w1.heap.size, 2, none⟩ = some (.int .u16 x2) ∧ w3.cell? ⟨w1.heap.size, 3, none⟩ = some (.int .u32 x3) ∧ w3.cell? ⟨w1.heap.size, 4, none⟩ = some (.int .u16 x4) ∧ w3.cell? ⟨w1.heap.size, 5, none⟩ = some (.int .i64 x5) ∧ w3.cell? ⟨w1.heap.size, 6, none⟩ = some (.int .u8 x6) ∧ w3.cell? ⟨w1.heap.size, 7, none⟩ = some (.bool true) ∧ w3.cell? ⟨w1.heap.size, 8, none⟩ = some (.int .u8 x8) ∧ True) := ⟨(by (repeat' (first | with_reducible exact b2 | with_reducible exact Below.refl _ _ | with_reducible refine Below.setCell ?_ (by first | exact Nat.le_refl _ | (dsimp only; omega)) _ | with_reducible refine bstep ?_ (fresh_below _ _) | with_reducible refine Below.drew ?_))), d2.at_ 0, d2.at_ 1, d2.at_ 2, d2.at_ 3, e2.at_ 0, e2.at_ 1, e2.at_ 2, e2.at_ 3, e2.at_ 4, e2.at_ 5, e2.at_ 6, e2.at_ 7, e2.at_ 8, trivial⟩
  go_region_held_law (fun w' => (Below w.heap.size w w' ∧ w'.cell? ⟨w.heap.size, 0, none⟩ = some (.int .u32 a) ∧ w'.cell? ⟨w.heap.size, 1, none⟩ = some (.int .u16 b) ∧ w'.cell? ⟨w.heap.size, 2, none⟩ = some (.int .u32 c) ∧ w'.cell? ⟨w.heap.size, 3, none⟩ = some (.int .u16 d) ∧ w'.cell? ⟨w1.heap.size, 0, none⟩ = some (.int .u8 x0) ∧ w'.cell? ⟨w1.heap.size, 1, none⟩ = some (.int .u32 x1) ∧ w'.cell? ⟨w1.heap.size, 2, none⟩ = some (.int .u16 x2) ∧ w'.cell? ⟨w1.heap.size, 3, none⟩ = some (.int .u32 x3) ∧ w'.cell? ⟨w1.heap.size, 4, none⟩ = some (.int .u16 x4) ∧ w'.cell? ⟨w1.heap.size, 5, none⟩ = some (.int .i64 x5) ∧ w'.cell? ⟨w1.heap.size, 6, none⟩ = some (.int .u8 x6) ∧ w'.cell? ⟨w1.heap.size, 7, none⟩ = some (.bool true) ∧ w'.cell? ⟨w1.heap.size, 8, none⟩ = some (.int .u8 x8) ∧ True)) (first | assumption | exact SK.out _ _ hS0 (Below.refl _ _).drew | exact SK.out _ _ hS0 (fresh_below _ _).drew | exact SK.out _ _ (by assumption) (fresh_below _ _) | (refine SK.out _ _ ?_ (by assumption); assumption))
    (first | (go_at_call 73; (with_reducible refine (C3.out _).mono ?_); rintro e wq ⟨rfl, bq⟩))
  all_goals
    have gs := GS.out _ (by assumption)
    obtain ⟨gb, g0, g1, g2, g3, k0, k1, k2, k3, k4, k5, k6, k7, k8, _⟩ := gs
    clear SK FS GS hS0
    obtain ⟨wA, rfl⟩ : ∃ W : World, W = wq := ⟨_, rfl⟩
    have bA : Below w.heap.size w wA := gb
    go_wp2_with fail
    (with_reducible refine (C4.out _).mono ?_)
    rintro e wB ⟨rfl, bB⟩
    go_wp2_with fail
    go_ret2
    exact ⟨rfl, bstep bA bB⟩

set_option maxRecDepth 100000 in
set_option maxHeartbeats 4000000 in
theorem rn_Apply_told (a b c d : Int) (x0 x1 x2 x3 x4 x5 x6 x8 : Int) (x7 : Bool) (h0 h1 h3 h4 h5 h6 : Int) (h2 : Bool) (o l : ByteArray) (y : Int) (s : ByteArray) (t1 t2 : ByteArray) (hr : ¬ x8 < 2) (hs : s.size ≤ 140737488351232) (h20 : 20 ≤ s.size) (hy : 0 ≤ y ∧ y ≤ 255) (e0 : (((s[0]'(by omega)).toNat : Nat) : Int) = y) (ho : y % 16 * 4 ≤ s.size) (hz : t1.size + t2.size ≤ 1000000) (hp : x0 ≠ 6 ∧ x0 ≠ 17) (hk : x5 ≠ 3) (hq : x7 = false) (w : World)
    (c1 : ∀ W, Calls Tryz.prog 57 #[.string s] W (Ret (.tuple #[.agg #[.int .u8 x0, .int .u32 x1, .int .u16 x2, .int .u32 x3, .int .u16 x4, .int .i64 x5, .int .u8 x6, .bool x7, .int .u8 x8], .int .i64 0]) W))
    (c2 : ∀ W, Calls Tryz.prog 58 #[.string s] W (Ret (.tuple #[.agg #[.int .u8 h0, .int .u16 h1, .bool h2, .int .u8 h3, .int .u8 h4, .int .u32 h5, .int .u32 h6, .string o], .string l, .int .i64 0]) W))
    (c3 : ∀ W, Calls Tryz.prog 73 #[.string (s.extract 0 (y % 16 * 4).toNat), .agg #[.int .u32 a, .int .u16 b, .int .u32 c, .int .u16 d]] W (Ret (.string t1) W))
    (c4 : ∀ W, Calls Tryz.prog 75 #[.string l, .int .u16 d] W (Ret (.string t2) W)) :
    Calls Tryz.prog 35 #[.string s, .agg #[.int .u32 a, .int .u16 b, .int .u32 c, .int .u16 d]] w (Ret (.tuple #[.string (t1 ++ t2), .int .i64 0]) w) := by
  have q1 : (x0 == 6) = false := by simpa using hp.1
  have q2 : (x0 == 17) = false := by simpa using hp.2
  have q3 : (x5 == 3) = false := by simpa using hk
  subst hq
  have i2 : (20 : Int) ≤ (s.size : Int) := by omega
  have i3 : (t1 ++ t2).size ≤ 1000000 := by rw [ByteArray.size_append]; exact hz
  have i4 : (0 : Int) < (s.size : Int) := by omega
  have i5 : 0 < s.size := by omega
  have m5 : y.tmod 16 = y % 16 := Int.tmod_eq_emod_of_nonneg (by omega)
  have oZ : (0 : Int) ≤ y % 16 * 4 := by omega
  have kw : IntKind.i64.wrap (y % 16 * 4) = y % 16 * 4 := IntWalk.i64_in _ (by omega)
  have C1 := hide c1; have C2 := hide c2; have C3 := hide c3
  clear c1 c2 c3
  have C4 := hide c4
  clear c4
  go_enter Tryz.func35, Tryz.ntmps35
  have d0 := Cells.new w #[.int .u32 a, .int .u16 b, .int .u32 c, .int .u16 d] 39
  go_wp2_with fail
  (with_reducible refine (C1.out _).mono ?_)
  rintro e w1 ⟨rfl, b1⟩
  have d1 := Cells.alloc (Cells.below b1 d0) (.cells #[.int .u8 x0, .int .u32 x1, .int .u16 x2, .int .u32 x3, .int .u16 x4, .int .i64 x5, .int .u8 x6, .bool false, .int .u8 x8] 120)
  have e1 := Cells.new w1 #[.int .u8 x0, .int .u32 x1, .int .u16 x2, .int .u32 x3, .int .u16 x4, .int .i64 x5, .int .u8 x6, .bool false, .int .u8 x8] 120
  obtain ⟨xe1_0, xe1_1, xe1_2, xe1_3, xe1_4, xe1_5, xe1_6, xe1_7, xe1_8⟩ := e1.x9
  replace b1 : Below w.heap.size w (w1.alloc (.cells #[.int .u8 x0, .int .u32 x1, .int .u16 x2, .int .u32 x3, .int .u16 x4, .int .i64 x5, .int .u8 x6, .bool false, .int .u8 x8] 120)) := bstep (bstep (fresh_below _ _) b1) (fresh_below _ _)
  go_wp2_with fail
  (with_reducible refine (C2.out _).mono ?_)
  rintro e w2 ⟨rfl, b2⟩
  have d2 := Cells.alloc (Cells.below b2 d1) (.cells #[.int .u8 h0, .int .u16 h1, .bool h2, .int .u8 h3, .int .u8 h4, .int .u32 h5, .int .u32 h6, .string o] 50)
  have e2 := Cells.alloc (Cells.below b2 e1) (.cells #[.int .u8 h0, .int .u16 h1, .bool h2, .int .u8 h3, .int .u8 h4, .int .u32 h5, .int .u32 h6, .string o] 50)
  replace b2 : Below w.heap.size w (w2.alloc (.cells #[.int .u8 h0, .int .u16 h1, .bool h2, .int .u8 h3, .int .u8 h4, .int .u32 h5, .int .u32 h6, .string o] 50)) := bstep (bstep b1 b2) (fresh_below _ _)
  clear d0 d1 e1 b1 xe1_0 xe1_1 xe1_2 xe1_3 xe1_4 xe1_5 xe1_6 xe1_7 xe1_8
  have D2 := hide d2; have E2 := hide e2; have B2 := hide b2
  clear d2 e2 b2
  go_wp2_with fail
  have d2 := D2.out; have e2 := E2.out; have b2 := B2.out
  clear D2 E2 B2
  generalize (w2.alloc (.cells #[.int .u8 h0, .int .u16 h1, .bool h2, .int .u8 h3, .int .u8 h4, .int .u32 h5, .int .u32 h6, .string o] 50)) = w3 at *
  have SK := hide (fun (zX zY : World) (zh : (Below w.heap.size w zX ∧ zX.cell? ⟨w.heap.size, 0, none⟩ = some (.int .u32 a) ∧ zX.cell? ⟨w.heap.size, 1, none⟩ = some (.int .u16 b) ∧ zX.cell? ⟨w.heap.size, 2, none⟩ = some (.int .u32 c) ∧ zX.cell? ⟨w.heap.size, 3, none⟩ = some (.int .u16 d) ∧ zX.cell? ⟨w1.heap.size, 0, none⟩ = some (.int .u8 x0) ∧ zX.cell? ⟨w1.heap.size, 1, none⟩ = some (.int .u32 x1) ∧ zX.cell? ⟨w1.heap.size, 2, none⟩ = some (.int .u16 x2) ∧ zX.cell? ⟨w1.heap.size, 3, none⟩ = some (.int .u32 x3) ∧ zX.cell? ⟨w1.heap.size, 4, none⟩ = some (.int .u16 x4) ∧ zX.cell? ⟨w1.heap.size, 5, none⟩ = some (.int .i64 x5) ∧ zX.cell? ⟨w1.heap.size, 6, none⟩ = some (.int .u8 x6) ∧ zX.cell? ⟨w1.heap.size, 7, none⟩ = some (.bool false) ∧ zX.cell? ⟨w1.heap.size, 8, none⟩ = some (.int .u8 x8) ∧ True)) (zb : Below zX.heap.size zX zY) => (show (Below w.heap.size w zY ∧ zY.cell? ⟨w.heap.size, 0, none⟩ = some (.int .u32 a) ∧ zY.cell? ⟨w.heap.size, 1, none⟩ = some (.int .u16 b) ∧ zY.cell? ⟨w.heap.size, 2, none⟩ = some (.int .u32 c) ∧ zY.cell? ⟨w.heap.size, 3, none⟩ = some (.int .u16 d) ∧ zY.cell? ⟨w1.heap.size, 0, none⟩ = some (.int .u8 x0) ∧ zY.cell? ⟨w1.heap.size, 1, none⟩ = some (.int .u32 x1) ∧ zY.cell? ⟨w1.heap.size, 2, none⟩ = some (.int .u16 x2) ∧ zY.cell? ⟨w1.heap.size, 3, none⟩ = some (.int .u32 x3) ∧ zY.cell? ⟨w1.heap.size, 4, none⟩ = some (.int .u16 x4) ∧ zY.cell? ⟨w1.heap.size, 5, none⟩ = some (.int .i64 x5) ∧ zY.cell? ⟨w1.heap.size, 6, none⟩ = some (.int .u8 x6) ∧ zY.cell? ⟨w1.heap.size, 7, none⟩ = some (.bool false) ∧ zY.cell? ⟨w1.heap.size, 8, none⟩ = some (.int .u8 x8) ∧ True) from ⟨bstep zh.1 zb, cellAt zb zh.2.1, cellAt zb zh.2.2.1, cellAt zb zh.2.2.2.1, cellAt zb zh.2.2.2.2.1, cellAt zb zh.2.2.2.2.2.1, cellAt zb zh.2.2.2.2.2.2.1, cellAt zb zh.2.2.2.2.2.2.2.1, cellAt zb zh.2.2.2.2.2.2.2.2.1, cellAt zb zh.2.2.2.2.2.2.2.2.2.1, cellAt zb zh.2.2.2.2.2.2.2.2.2.2.1, cellAt zb zh.2.2.2.2.2.2.2.2.2.2.2.1, cellAt zb zh.2.2.2.2.2.2.2.2.2.2.2.2.1, cellAt zb zh.2.2.2.2.2.2.2.2.2.2.2.2.2.1, trivial⟩))
  have FS := hide (fun (zX : World) (zh : (Below w.heap.size w zX ∧ zX.cell? ⟨w.heap.size, 0, none⟩ = some (.int .u32 a) ∧ zX.cell? ⟨w.heap.size, 1, none⟩ = some (.int .u16 b) ∧ zX.cell? ⟨w.heap.size, 2, none⟩ = some (.int .u32 c) ∧ zX.cell? ⟨w.heap.size, 3, none⟩ = some (.int .u16 d) ∧ zX.cell? ⟨w1.heap.size, 0, none⟩ = some (.int .u8 x0) ∧ zX.cell? ⟨w1.heap.size, 1, none⟩ = some (.int .u32 x1) ∧ zX.cell? ⟨w1.heap.size, 2, none⟩ = some (.int .u16 x2) ∧ zX.cell? ⟨w1.heap.size, 3, none⟩ = some (.int .u32 x3) ∧ zX.cell? ⟨w1.heap.size, 4, none⟩ = some (.int .u16 x4) ∧ zX.cell? ⟨w1.heap.size, 5, none⟩ = some (.int .i64 x5) ∧ zX.cell? ⟨w1.heap.size, 6, none⟩ = some (.int .u8 x6) ∧ zX.cell? ⟨w1.heap.size, 7, none⟩ = some (.bool false) ∧ zX.cell? ⟨w1.heap.size, 8, none⟩ = some (.int .u8 x8) ∧ True)) => zh.1)
  have GS := hide (fun (zX : World) (zh : (Below w.heap.size w zX ∧ zX.cell? ⟨w.heap.size, 0, none⟩ = some (.int .u32 a) ∧ zX.cell? ⟨w.heap.size, 1, none⟩ = some (.int .u16 b) ∧ zX.cell? ⟨w.heap.size, 2, none⟩ = some (.int .u32 c) ∧ zX.cell? ⟨w.heap.size, 3, none⟩ = some (.int .u16 d) ∧ zX.cell? ⟨w1.heap.size, 0, none⟩ = some (.int .u8 x0) ∧ zX.cell? ⟨w1.heap.size, 1, none⟩ = some (.int .u32 x1) ∧ zX.cell? ⟨w1.heap.size, 2, none⟩ = some (.int .u16 x2) ∧ zX.cell? ⟨w1.heap.size, 3, none⟩ = some (.int .u32 x3) ∧ zX.cell? ⟨w1.heap.size, 4, none⟩ = some (.int .u16 x4) ∧ zX.cell? ⟨w1.heap.size, 5, none⟩ = some (.int .i64 x5) ∧ zX.cell? ⟨w1.heap.size, 6, none⟩ = some (.int .u8 x6) ∧ zX.cell? ⟨w1.heap.size, 7, none⟩ = some (.bool false) ∧ zX.cell? ⟨w1.heap.size, 8, none⟩ = some (.int .u8 x8) ∧ True)) => zh)
  have hS0 : (Below w.heap.size w w3 ∧ w3.cell? ⟨w.heap.size, 0, none⟩ = some (.int .u32 a) ∧ w3.cell? ⟨w.heap.size, 1, none⟩ = some (.int .u16 b) ∧ w3.cell? ⟨w.heap.size, 2, none⟩ = some (.int .u32 c) ∧ w3.cell? ⟨w.heap.size, 3, none⟩ = some (.int .u16 d) ∧ w3.cell? ⟨w1.heap.size, 0, none⟩ = some (.int .u8 x0) ∧ w3.cell? ⟨w1.heap.size, 1, none⟩ = some (.int .u32 x1) ∧ w3.cell? ⟨w1.heap.size, 2, none⟩ = some (.int .u16 x2) ∧ w3.cell? ⟨w1.heap.size, 3, none⟩ = some (.int .u32 x3) ∧ w3.cell? ⟨w1.heap.size, 4, none⟩ = some (.int .u16 x4) ∧ w3.cell? ⟨w1.heap.size, 5, none⟩ = some (.int .i64 x5) ∧ w3.cell? ⟨w1.heap.size, 6, none⟩ = some (.int .u8 x6) ∧ w3.cell? ⟨w1.heap.size, 7, none⟩ = some (.bool false) ∧ w3.cell? ⟨w1.heap.size, 8, none⟩ = some (.int .u8 x8) ∧ True) := ⟨(by (repeat' (first | with_reducible exact b2 | with_reducible exact Below.refl _ _ | with_reducible refine Below.setCell ?_ (by first | exact Nat.le_refl _ | (dsimp only; omega)) _ | with_reducible refine bstep ?_ (fresh_below _ _) | with_reducible refine Below.drew ?_))), d2.at_ 0, d2.at_ 1, d2.at_ 2, d2.at_ 3, e2.at_ 0, e2.at_ 1, e2.at_ 2, e2.at_ 3, e2.at_ 4, e2.at_ 5, e2.at_ 6, e2.at_ 7, e2.at_ 8, trivial⟩
  go_region_held_law (fun w' => (Below w.heap.size w w' ∧ w'.cell? ⟨w.heap.size, 0, none⟩ = some (.int .u32 a) ∧ w'.cell? ⟨w.heap.size, 1, none⟩ = some (.int .u16 b) ∧ w'.cell? ⟨w.heap.size, 2, none⟩ = some (.int .u32 c) ∧ w'.cell? ⟨w.heap.size, 3, none⟩ = some (.int .u16 d) ∧ w'.cell? ⟨w1.heap.size, 0, none⟩ = some (.int .u8 x0) ∧ w'.cell? ⟨w1.heap.size, 1, none⟩ = some (.int .u32 x1) ∧ w'.cell? ⟨w1.heap.size, 2, none⟩ = some (.int .u16 x2) ∧ w'.cell? ⟨w1.heap.size, 3, none⟩ = some (.int .u32 x3) ∧ w'.cell? ⟨w1.heap.size, 4, none⟩ = some (.int .u16 x4) ∧ w'.cell? ⟨w1.heap.size, 5, none⟩ = some (.int .i64 x5) ∧ w'.cell? ⟨w1.heap.size, 6, none⟩ = some (.int .u8 x6) ∧ w'.cell? ⟨w1.heap.size, 7, none⟩ = some (.bool false) ∧ w'.cell? ⟨w1.heap.size, 8, none⟩ = some (.int .u8 x8) ∧ True)) (first | assumption | exact SK.out _ _ hS0 (Below.refl _ _).drew | exact SK.out _ _ hS0 (fresh_below _ _).drew | exact SK.out _ _ (by assumption) (fresh_below _ _) | (refine SK.out _ _ ?_ (by assumption); assumption))
    (first | (go_at_call 73; (with_reducible refine (C3.out _).mono ?_); rintro e wq ⟨rfl, bq⟩))
  all_goals
    have gs := GS.out _ (by assumption)
    obtain ⟨gb, g0, g1, g2, g3, k0, k1, k2, k3, k4, k5, k6, k7, k8, _⟩ := gs
    clear SK FS GS hS0
    obtain ⟨wA, rfl⟩ : ∃ W : World, W = wq := ⟨_, rfl⟩
    have bA : Below w.heap.size w wA := gb
    go_wp2_with fail
    (with_reducible refine (C4.out _).mono ?_)
    rintro e wB ⟨rfl, bB⟩
    go_wp2_with fail
    go_ret2
    exact ⟨rfl, bstep bA bB⟩

theorem rn_Apply (a b c d : Int) (s : ByteArray) (w : World) (ha : 0 ≤ a ∧ a ≤ 4294967295) (hb : 0 ≤ b ∧ b ≤ 65535) (hc : 0 ≤ c ∧ c ≤ 4294967295) (hd : 0 ≤ d ∧ d ≤ 65535) (hs : s.size ≤ 140737488351232) :
    Calls Tryz.prog 35 #[.string s, .agg #[.int .u32 a, .int .u16 b, .int .u32 c, .int .u16 d]] w (Ret (.tuple #[.string (rwOut s a b c d), .int .i64 (rwWhy s)]) w) := by
  have c1 := fun W => o_Of s W hs
  by_cases h1 : seenWhy s ≠ 0
  · have e1 : rwWhy s = seenWhy s := by unfold rwWhy; rw [if_pos h1]
    have e2 : rwOut s a b c d = { data := #[] } := by unfold rwOut; rw [e1, if_neg h1]
    rw [e1, e2]
    unfold Seen.cells at c1
    exact rn_Apply_bad a b c d _ _ _ _ _ _ _ _ _ s _ h1 w c1
  have h1' : seenWhy s = 0 := by omega
  rw [h1'] at c1
  by_cases h2 : (seenOf s).l < 2
  · have e1 : rwWhy s = 8 := by unfold rwWhy; rw [if_neg h1, if_pos h2]
    have e2 : rwOut s a b c d = { data := #[] } := by unfold rwOut; rw [e1, if_neg (by decide)]
    rw [e1, e2]
    unfold Seen.cells at c1
    exact rn_Apply_ttl a b c d _ _ _ _ _ _ _ _ _ s h2 w c1
  have e1 : rwWhy s = 0 := by unfold rwWhy; rw [if_neg h1, if_neg h2]
  have e2 : rwOut s a b c d = S (rwNew s a b c d) := by unfold rwOut; rw [if_pos e1]
  rw [e1, e2]
  have hip : ipWhy s = 0 := by
    unfold seenWhy at h1'
    by_cases h : ipWhy s = 0
    · exact h
    · rw [if_neg h] at h1'; exact h1'
  have hlw : loadWhy (hdOf s).p (ipRest s) = 0 := by unfold seenWhy at h1'; rwa [if_pos hip] at h1'
  have hso : seenOf s = loadSeen (hdOf s) (ipRest s) := by unfold seenOf; rw [if_pos h1']
  obtain ⟨a1, a2, a3, a4, a5, ho, a6, key, hh⟩ := ip_head s hip
  have hrest : ipRest s = s.extract (ipOwn (L s)).toNat (ipAll (L s)).toNat := by unfold ipRest; rw [if_pos hip]
  have hp : (ipRest s).size = (ipAll (L s)).toNat - (ipOwn (L s)).toNat := by rw [hrest, ByteArray.size_extract]; omega
  have hl : (seenOf s).l = at_ (L s) 8 := by
    rw [hso]; unfold loadSeen
    split
    · rfl
    split
    · rfl
    split
    · rfl
    split <;> rfl
  have hpp : (seenOf s).t.p = 6 → 20 ≤ (ipRest s).size := by
    intro h
    rw [hso] at h
    unfold loadSeen at h
    by_cases h6 : (hdOf s).p = 6
    · unfold loadWhy at hlw
      rw [if_pos h6] at hlw
      by_cases ht : tcpIs (ipRest s) = true
      · unfold tcpIs at ht; simp at ht; omega
      · rw [if_neg ht] at hlw; omega
    · rw [if_neg h6] at h
      split at h
      · simp at h
      split at h
      · simp at h
      split at h <;> simp at h
  have h8 : 8 ≤ (ipRest s).size := by
    unfold loadWhy at hlw
    split at hlw
    · split at hlw
      · rename_i ht; unfold tcpIs at ht; simp at ht; omega
      · omega
    split at hlw
    · split at hlw
      · rename_i ht; unfold udpIs at ht; simp at ht; omega
      · omega
    split at hlw
    · split at hlw <;> omega
    · omega
  have c2 := fun W => r4_Parse s W hs
  rw [show hdRes s = hdOf s from by unfold hdRes; rw [if_pos hip], hip] at c2
  have hxz : (s.extract 0 (ipOwn (L s)).toNat).size = (ipOwn (L s)).toNat := by rw [ByteArray.size_extract]; omega
  have hLx : L (s.extract 0 (ipOwn (L s)).toNat) = (L s).take (ipOwn (L s)).toNat := by rw [L_to]
  have h12 : (s.extract 12 20).size = 8 := by rw [ByteArray.size_extract]; omega
  have c3 := fun W => rn_Head a b c d (s.extract 0 (ipOwn (L s)).toNat) W ha hc (by omega) (by omega) (by rw [hLx, at_take (by omega)]; omega)
  rw [hLx] at c3
  have hL12 : L (s.extract 12 20) = ((L s).drop 12).take 8 := L_extract _ _ _
  have hz1 : (headNew ((L s).take (ipOwn (L s)).toNat) a c).length ≤ 100000 := by
    unfold headNew lifeOf
    simp [put16_length, show (ipsOf a c).length = 8 from rfl]
    omega
  have hz2 : (loadNew (seenOf s) (L (ipRest s)) (((L s).drop 12).take 8) a b c d).length ≤ 100000 := by
    have hq : (L (ipRest s)).length ≤ 2048 := by rw [L_length]; omega
    have hq8 : 8 ≤ (L (ipRest s)).length := by rw [L_length]; exact h8
    unfold loadNew
    split
    · rename_i g6
      have := hpp g6
      unfold flowNew
      rw [lay_length (by simp [putW_length, L_length]; omega)]
      simp [putW_length]; omega
    split
    · unfold flowNew
      rw [lay_length (by simp [putW_length]; omega)]
      simp [putW_length]; omega
    split
    · omega
    split
    · unfold queryOf; rw [lay_length (by rw [lay_length (by omega)]; omega), lay_length (by omega)]; omega
    · unfold queryOf; rw [lay_length (by rw [lay_length (by omega)]; omega), lay_length (by omega)]; omega
  have hout : S (headNew ((L s).take (ipOwn (L s)).toNat) a c) ++ S (loadNew (seenOf s) (L (ipRest s)) (((L s).drop 12).take 8) a b c d) = S (rwNew s a b c d) := by rw [S_append]; rfl
  rw [← hout]
  unfold Hd.cells at c2
  have hzz : (S (headNew ((L s).take (ipOwn (L s)).toNat) a c)).size + (S (loadNew (seenOf s) (L (ipRest s)) (((L s).drop 12).take 8) a b c d)).size ≤ 1000000 := by rw [S_size, S_size]; omega
  have hb0 := at_bd (L s) 0
  have e0 : (((s[0]'(by omega)).toNat : Nat) : Int) = at_ (L s) 0 := by rw [getElem_L s 0 (by omega)]; rfl
  have how : ipOwn (L s) = at_ (L s) 0 % 16 * 4 := rfl
  have hoz : at_ (L s) 0 % 16 * 4 ≤ (s.size : Int) := by omega
  have h20 : 20 ≤ s.size := by omega
  have f4 := fun k kk hk h20 W => rn_Ports a b c d (ipRest s) (s.extract 12 20) k kk W hk ha hb hc hd (by omega) h20 h12
  rw [hL12] at f4
  have f5 := fun W => rn_query (ipRest s) b W (by omega) h8 hb
  have f6 := fun W => rn_query (ipRest s) d W (by omega) h8 hd
  generalize seenOf s = x at *
  obtain ⟨⟨x0, x1, x2, x3, x4⟩, x5, x6, x7, x8⟩ := x
  unfold Seen.cells at c1
  simp only at h2 hpp c1 hzz ⊢
  unfold loadNew at hzz ⊢
  simp only at hzz ⊢
  by_cases p6 : x0 = 6
  · rw [if_pos p6] at hzz ⊢
    exact rn_Apply_tcp a b c d _ _ _ _ _ _ _ _ _ _ _ _ _ _ _ _ _ _ _ s _ _ h2 hs h20 hb0 e0 hoz hzz p6 w c1 c2 c3 (fun W => f4 16 16 (Or.inl ⟨rfl, rfl⟩) (by have := hpp p6; omega) W)
  rw [if_neg p6] at hzz ⊢
  by_cases p17 : x0 = 17
  · rw [if_pos p17] at hzz ⊢
    exact rn_Apply_udp a b c d _ _ _ _ _ _ _ _ _ _ _ _ _ _ _ _ _ _ _ s _ _ h2 hs h20 hb0 e0 hoz hzz p17 w c1 c2 c3 (fun W => f4 6 6 (Or.inr ⟨rfl, rfl⟩) (by omega) W)
  rw [if_neg p17] at hzz ⊢
  by_cases k3 : x5 = 3
  · rw [if_pos k3] at hzz ⊢
    exact rn_Apply_err a b c d _ _ _ _ _ _ _ _ _ _ _ _ _ _ _ _ _ _ _ s _ _ h2 hs h20 hb0 e0 hoz hzz ⟨p6, p17⟩ k3 (by rw [S_L]) w c1 c2 c3
  rw [if_neg k3] at hzz ⊢
  by_cases q7 : x7 = true
  · rw [if_pos q7] at hzz ⊢
    exact rn_Apply_ask a b c d _ _ _ _ _ _ _ _ _ _ _ _ _ _ _ _ _ _ _ s _ _ h2 hs h20 hb0 e0 hoz hzz ⟨p6, p17⟩ k3 q7 w c1 c2 c3 f5
  · rw [if_neg q7] at hzz ⊢
    exact rn_Apply_told a b c d _ _ _ _ _ _ _ _ _ _ _ _ _ _ _ _ _ _ _ s _ _ h2 hs h20 hb0 e0 hoz hzz ⟨p6, p17⟩ k3 (by simpa using q7) w c1 c2 c3 f6
end Go.Proofs.YtjeaknipmdfkdaaGreatDoor
end

section
/- porterref10: addr, Look: what an error is about, by the document. -/
set_option linter.unusedVariables false
set_option linter.unusedSimpArgs false
namespace Go.Proofs.YtjeaknipmdfkdaaGreatDoor
open Go.RowKit
attribute [local go_sem] Oper.semAt_some envL lookV

theorem rd_addr (s : ByteArray) (k : Nat) (w : World) (hs : s.size ≤ 140737488351232) (h : k + 4 ≤ s.size) :
    Calls Tryz.prog 61 #[.string s, .int .i64 k] w (fun e w' => e = .returned (.int .u32 (be32 (L s) k)) ∧ w' = w) := by
  have c := fun W => q_Get32 s k W (by unfold maxLen; omega) h
  rw [get32_nat (by rw [L_length]; exact h)] at c
  generalize be32 (L s) k = x at *
  have C := hide c
  clear c hs h
  go_enter Tryz.func61, Tryz.ntmps61
  go_wp2_with (go_at_call 114; (with_reducible refine (C.out _).mono ?_); rintro e w2 ⟨rfl, rfl⟩)
  go_ret
  exact ⟨rfl, rfl⟩
/-- what Look finds -/
def lkOf (d : List UInt8) : Value := if emWhy d = 0 then .agg #[.int .i64 (emEnd d), .int .u8 (emTup d).p, .int .u32 (emTup d).a, .int .u16 (emTup d).b, .int .u32 (emTup d).c, .int .u16 (emTup d).d, .bool (emAsk d), .int .i64 0]
  else .agg #[.int .i64 0, .int .u8 0, .int .u32 0, .int .u16 0, .int .u32 0, .int .u16 0, .bool false, .int .i64 (emWhy d)]
set_option maxRecDepth 100000 in
set_option maxHeartbeats 4000000 in
theorem rd_Look_early (w : World) (s : ByteArray) (hs : s.size ≤ 140737488351232) (h : s.size < 20 ∨ (20 ≤ s.size ∧ at_ (L s) 0 / 16 ≠ 4)) :
    Calls Tryz.prog 30 #[.string s] w (Ret (.agg #[.int .i64 0, .int .u8 0, .int .u32 0, .int .u16 0, .int .u32 0, .int .u16 0, .bool false, .int .i64 15]) w) := by
  rcases h with h | ⟨h20, hv⟩
  · have q2 : (s.size : Int) < 20 := by omega
    clear h hs
    go_enter Tryz.func30, Tryz.ntmps30
    go_wp2_with fail
    (try simp only [Exit.inBlock, Exit.then])
    refine bodyPost_ret (res_cell Tryz.results30 (Cells.new w #[.int .i64 0, .int .u8 0, .int .u32 0, .int .u16 0, .int .u32 0, .int .u16 0, .bool false, .int .i64 15] 84) (by rfl) _ Tryz.underlying84 rfl (by kernel_rfl)) rfl ?_
    exact ⟨rfl, fresh_below _ _⟩
  · have q2 : ¬ (s.size : Int) < 20 := by omega
    have i5 : 0 < s.size := by omega
    have e0 : (((s[0]'i5).toNat : Nat) : Int) = at_ (L s) 0 := by rw [getElem_L s 0 (by omega)]; rfl
    have hb := at_bd (L s) 0
    have i4 : (0 : Int) < (s.size : Int) := by omega
    generalize at_ (L s) 0 = x at *
    have m1 : (x / 16 != 4) = true := by simpa using hv
    have m2 : (x / 16 == 4) = false := by simpa using hv
    clear hv hs h20
    go_enter Tryz.func30, Tryz.ntmps30
    go_wp2_with fail
    (try simp only [Exit.inBlock, Exit.then])
    refine bodyPost_ret (res_cell Tryz.results30 (Cells.new w #[.int .i64 0, .int .u8 0, .int .u32 0, .int .u16 0, .int .u32 0, .int .u16 0, .bool false, .int .i64 15] 84) (by rfl) _ Tryz.underlying84 rfl (by kernel_rfl)) rfl ?_
    exact ⟨rfl, fresh_below _ _⟩
set_option maxRecDepth 100000 in
set_option maxHeartbeats 4000000 in
theorem rd_Look_mid (w : World) (s : ByteArray) (hs : s.size ≤ 140737488351232) (h20 : 20 ≤ s.size) (hv : at_ (L s) 0 / 16 = 4) (hbad : ((emAt (L s) : Nat) : Int) < 20 ∨ (¬ ((emAt (L s) : Nat) : Int) < 20 ∧ (s.size : Int) < ((emAt (L s) : Nat) : Int)) ∨ (¬ ((emAt (L s) : Nat) : Int) < 20 ∧ ¬ (s.size : Int) < ((emAt (L s) : Nat) : Int) ∧ be16 (L s) 6 % 8192 ≠ 0) ∨ (¬ ((emAt (L s) : Nat) : Int) < 20 ∧ ¬ (s.size : Int) < ((emAt (L s) : Nat) : Int) ∧ be16 (L s) 6 % 8192 = 0 ∧ (s.size : Int) - ((emAt (L s) : Nat) : Int) < 8)) :
    Calls Tryz.prog 30 #[.string s] w (Ret (.agg #[.int .i64 0, .int .u8 0, .int .u32 0, .int .u16 0, .int .u32 0, .int .u16 0, .bool false, .int .i64 15]) w) := by
  have q2 : ¬ (s.size : Int) < 20 := by omega
  have i5 : 0 < s.size := by omega
  have e0 : (((s[0]'i5).toNat : Nat) : Int) = at_ (L s) 0 := by rw [getElem_L s 0 (by omega)]; rfl
  have hb := at_bd (L s) 0
  have i4 : (0 : Int) < (s.size : Int) := by omega
  have hkz : ((emAt (L s) : Nat) : Int) = at_ (L s) 0 % 16 * 4 := by unfold emAt emEnd; omega
  have cw := fun W => rn_Word s 6 W hs (by omega)
  rw [show ((6 : Nat) : Int) = 6 from rfl] at cw
  have hv16 := be16_bd (L s) 6
  generalize be16 (L s) 6 = v at *
  obtain ⟨k, hk⟩ : ∃ k, k = emAt (L s) := ⟨_, rfl⟩
  rw [← hk] at hkz hbad
  obtain ⟨x, hx⟩ : ∃ x, x = at_ (L s) 0 := ⟨_, rfl⟩
  rw [← hx] at e0 hb hv hkz
  have m1 : (x / 16 != 4) = false := by simpa using hv
  have m2 : (x / 16 == 4) = true := by simpa using hv
  have m5 : x.tmod 16 = x % 16 := Int.tmod_eq_emod_of_nonneg (by omega)
  obtain ⟨y, hy⟩ : ∃ y, y = x % 16 := ⟨_, rfl⟩
  rw [← hy] at hkz m5
  have hyb : 0 ≤ y ∧ y ≤ 15 := by omega
  have wy : IntKind.i64.wrap y = y := IntWalk.i64_in _ (by omega)
  have wy8 : IntKind.u8.wrap y = y := by rw [IntKind.wrap_u8]; omega
  have wz : IntKind.i64.wrap (y * 4) = (k : Int) := by rw [IntWalk.i64_in _ (by omega), hkz]
  obtain ⟨l8, hl8⟩ : ∃ l8 : Int, l8 = (s.size : Int) - (k : Int) := ⟨_, rfl⟩
  have w8 : IntKind.i64.wrap ((s.size : Int) - (k : Int)) = l8 := by rw [IntWalk.i64_in _ (by omega), hl8]
  obtain ⟨r, hr⟩ : ∃ r, r = v % 8192 := ⟨_, rfl⟩
  have m6 : v.tmod 8192 = r := by rw [hr]; exact Int.tmod_eq_emod_of_nonneg (by omega)
  have wr : IntKind.u16.wrap r = r := by rw [IntKind.wrap_u16]; omega
  have CW := hide cw
  clear cw
  rw [← hl8, ← hr] at hbad
  clear hx hy hkz hk hv hyb hl8 hr hs h20
  go_enter Tryz.func30, Tryz.ntmps30
  have d0 := Cells.new w #[.int .i64 0, .int .u8 0, .int .u32 0, .int .u16 0, .int .u32 0, .int .u16 0, .bool false, .int .i64 0] 84
  have bn := fresh_below w (.cells #[.int .i64 0, .int .u8 0, .int .u32 0, .int .u16 0, .int .u32 0, .int .u16 0, .bool false, .int .i64 0] 84)
  have D0 := hide d0; have BN := hide bn
  clear d0 bn
  go_upto_region 4 with fail
  generalize (w.alloc (.cells #[.int .i64 0, .int .u8 0, .int .u32 0, .int .u16 0, .int .u32 0, .int .u16 0, .bool false, .int .i64 0] 84)) = w1 at *
  clear q2 m1 m2 m5 wy wy8 wz e0 i4 hb
  rcases hbad with h1 | ⟨h1, h2⟩ | ⟨h1, h2, h3⟩ | ⟨h1, h2, h3, h6⟩
  · go_upto_region 5 with fail
    refine wp_region_lit ?_
    refine wpList_plain rfl fun K hK => ?_; go_simp; refine hK _ _ ?_; clear hK K
    refine wpList_store_all rfl 84 (.tmp 2) (.tmp 44) rfl (c' := #[.int .i64 0, .int .u8 0, .int .u32 0, .int .u16 0, .int .u32 0, .int .u16 0, .bool false, .int .i64 15]) D0.out (by rfl) (by rfl) (by kernel_rfl) rfl (by simp [Value.oneCell']) ?_
    intro W5 r5 o5 z5
    go_wp2_with fail
    (try simp only [Exit.inBlock, Exit.then])
    refine bodyPost_ret (res_cell Tryz.results30 r5 (by rfl) _ Tryz.underlying84 rfl (by kernel_rfl)) rfl ?_
    exact ⟨rfl, BN.out.trans (o5.below (fun j e => by omega) BN.out.size)⟩
  · go_upto_region 5 with fail
    refine wp_region_lit ?_
    refine wpList_plain rfl fun K hK => ?_; go_simp; refine hK _ _ ?_; clear hK K
    refine wpList_store_all rfl 84 (.tmp 2) (.tmp 44) rfl (c' := #[.int .i64 0, .int .u8 0, .int .u32 0, .int .u16 0, .int .u32 0, .int .u16 0, .bool false, .int .i64 15]) D0.out (by rfl) (by rfl) (by kernel_rfl) rfl (by simp [Value.oneCell']) ?_
    intro W5 r5 o5 z5
    go_wp2_with fail
    (try simp only [Exit.inBlock, Exit.then])
    refine bodyPost_ret (res_cell Tryz.results30 r5 (by rfl) _ Tryz.underlying84 rfl (by kernel_rfl)) rfl ?_
    exact ⟨rfl, BN.out.trans (o5.below (fun j e => by omega) BN.out.size)⟩
  · have h4 : (r != 0) = true := by simpa using h3
    go_upto_region 5 with (go_at_call 60; (with_reducible refine (CW.out _).mono ?_); rintro e w2 ⟨rfl, b2⟩)
    refine wp_region_lit ?_
    refine wpList_plain rfl fun K hK => ?_; go_simp; refine hK _ _ ?_; clear hK K
    refine wpList_store_all rfl 84 (.tmp 2) (.tmp 44) rfl (c' := #[.int .i64 0, .int .u8 0, .int .u32 0, .int .u16 0, .int .u32 0, .int .u16 0, .bool false, .int .i64 15]) (Cells.below b2 D0.out) (by rfl) (by rfl) (by kernel_rfl) rfl (by simp [Value.oneCell']) ?_
    intro W5 r5 o5 z5
    go_wp2_with fail
    (try simp only [Exit.inBlock, Exit.then])
    refine bodyPost_ret (res_cell Tryz.results30 r5 (by rfl) _ Tryz.underlying84 rfl (by kernel_rfl)) rfl ?_
    exact ⟨rfl, (bstep BN.out b2).trans (o5.below (fun j e => by omega) (bstep BN.out b2).size)⟩
  · have h4 : (r != 0) = false := by rw [h3]; rfl
    go_upto_region 5 with (go_at_call 60; (with_reducible refine (CW.out _).mono ?_); rintro e w2 ⟨rfl, b2⟩)
    refine wp_region_lit ?_
    refine wpList_plain rfl fun K hK => ?_; go_simp; refine hK _ _ ?_; clear hK K
    refine wpList_store_all rfl 84 (.tmp 2) (.tmp 44) rfl (c' := #[.int .i64 0, .int .u8 0, .int .u32 0, .int .u16 0, .int .u32 0, .int .u16 0, .bool false, .int .i64 15]) (Cells.below b2 D0.out) (by rfl) (by rfl) (by kernel_rfl) rfl (by simp [Value.oneCell']) ?_
    intro W5 r5 o5 z5
    go_wp2_with fail
    (try simp only [Exit.inBlock, Exit.then])
    refine bodyPost_ret (res_cell Tryz.results30 r5 (by rfl) _ Tryz.underlying84 rfl (by kernel_rfl)) rfl ?_
    exact ⟨rfl, (bstep BN.out b2).trans (o5.below (fun j e => by omega) (bstep BN.out b2).size)⟩
end Go.Proofs.YtjeaknipmdfkdaaGreatDoor
end
