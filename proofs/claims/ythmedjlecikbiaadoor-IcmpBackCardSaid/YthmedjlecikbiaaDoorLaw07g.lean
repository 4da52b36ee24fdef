/- IcmpBack: its walk of every message and every text. -/
import Derived.Test.YthmedjlecikbiaaDoorLaw07e
import Derived.Test.YthmedjlecikbiaaDoorLaw07f
set_option linter.unusedVariables false
namespace Go.Proofs.YthmedjlecikbiaaDoor
open Go.RowKit Go.Maps
attribute [local go_sem] Oper.semAt_some

set_option maxRecDepth 100000 in
set_option maxHeartbeats 4000000 in
theorem IcmpBack_far (t c n : Int) (r d s : ByteArray) (id : Int) (w : World) (K0 : Kinds w) (hg : 600 < s.size ∨ 600 < r.size ∨ 600 < d.size) :
    Calls Tryd.prog 6 #[.agg #[.int .u8 t, .int .u8 c, .int .u16 n, .string r, .string d], .string s, .int .u16 id] w (Ret (.bool true) w) := by
  have c0 := fun w k => echoed w k
  have KK := hide K0; have C0 := hide c0
  clear K0 c0
  by_cases g1 : 600 < s.size
  · clear hg
    go_enter Tryd.func6, Tryd.ntmps6
    go_wp2_with fail
    (with_reducible refine (C0.out _ (KK.out.below (by (repeat' (first | with_reducible exact Below.refl _ _ | with_reducible refine Below.setCell ?_ (by first | exact Nat.le_refl _ | (dsimp only; omega)) _ | with_reducible refine bstep ?_ (fresh_below _ _) | with_reducible refine Below.drew ?_))))).mono ?_)
    rintro e w1 ⟨rfl, b1⟩
    replace b1 : Below w.heap.size w w1 := by (refine bstep ?_ b1); (repeat' (first | with_reducible exact Below.refl _ _ | with_reducible refine Below.setCell ?_ (by first | exact Nat.le_refl _ | (dsimp only; omega)) _ | with_reducible refine bstep ?_ (fresh_below _ _) | with_reducible refine Below.drew ?_))
    have z1 : w.heap.size ≤ w1.heap.size := b1.size
    go_wp2_with fail
    go_ret
    exact ⟨rfl, (by (repeat' (first | with_reducible exact b1 | with_reducible exact Below.refl _ _ | with_reducible refine Below.setCell ?_ (by first | exact Nat.le_refl _ | (dsimp only; omega)) _ | with_reducible refine bstep ?_ (fresh_below _ _) | with_reducible refine Below.drew ?_)))⟩
  by_cases g2 : 600 < r.size
  · clear hg
    go_enter Tryd.func6, Tryd.ntmps6
    go_wp2_with fail
    (with_reducible refine (C0.out _ (KK.out.below (by (repeat' (first | with_reducible exact Below.refl _ _ | with_reducible refine Below.setCell ?_ (by first | exact Nat.le_refl _ | (dsimp only; omega)) _ | with_reducible refine bstep ?_ (fresh_below _ _) | with_reducible refine Below.drew ?_))))).mono ?_)
    rintro e w1 ⟨rfl, b1⟩
    replace b1 : Below w.heap.size w w1 := by (refine bstep ?_ b1); (repeat' (first | with_reducible exact Below.refl _ _ | with_reducible refine Below.setCell ?_ (by first | exact Nat.le_refl _ | (dsimp only; omega)) _ | with_reducible refine bstep ?_ (fresh_below _ _) | with_reducible refine Below.drew ?_))
    have z1 : w.heap.size ≤ w1.heap.size := b1.size
    go_wp2_with fail
    go_ret
    exact ⟨rfl, (by (repeat' (first | with_reducible exact b1 | with_reducible exact Below.refl _ _ | with_reducible refine Below.setCell ?_ (by first | exact Nat.le_refl _ | (dsimp only; omega)) _ | with_reducible refine bstep ?_ (fresh_below _ _) | with_reducible refine Below.drew ?_)))⟩
  have g3 : 600 < d.size := by omega
  clear hg
  go_enter Tryd.func6, Tryd.ntmps6
  go_wp2_with fail
  (with_reducible refine (C0.out _ (KK.out.below (by (repeat' (first | with_reducible exact Below.refl _ _ | with_reducible refine Below.setCell ?_ (by first | exact Nat.le_refl _ | (dsimp only; omega)) _ | with_reducible refine bstep ?_ (fresh_below _ _) | with_reducible refine Below.drew ?_))))).mono ?_)
  rintro e w1 ⟨rfl, b1⟩
  replace b1 : Below w.heap.size w w1 := by (refine bstep ?_ b1); (repeat' (first | with_reducible exact Below.refl _ _ | with_reducible refine Below.setCell ?_ (by first | exact Nat.le_refl _ | (dsimp only; omega)) _ | with_reducible refine bstep ?_ (fresh_below _ _) | with_reducible refine Below.drew ?_))
  have z1 : w.heap.size ≤ w1.heap.size := b1.size
  go_wp2_with fail
  go_ret
  exact ⟨rfl, (by (repeat' (first | with_reducible exact b1 | with_reducible exact Below.refl _ _ | with_reducible refine Below.setCell ?_ (by first | exact Nat.le_refl _ | (dsimp only; omega)) _ | with_reducible refine bstep ?_ (fresh_below _ _) | with_reducible refine Below.drew ?_)))⟩

/-- what the walks ask of what was parsed -/
theorem back_parsed (s : ByteArray) (id : Int) (hs : s.size ≤ 140737488351232) (hi : 0 ≤ id ∧ id ≤ 65535) : ∃ x1 x2 x3 : Int, ∃ x4 x5 : ByteArray, ∃ is : Bool, ∃ u : ByteArray, ∃ f y1 y2 y3 : Int, ∃ y4 y5 : ByteArray, ∃ q6 q7 : Int,
    (∀ w, Calls Tryd.prog 13 #[.string s] w (Ret (.tuple #[.agg #[.int .u8 x1, .int .u8 x2, .int .u16 x3, .string x4, .string x5], .bool is]) w)) ∧
    (∀ w, Calls Tryd.prog 15 #[.agg #[.int .u8 x1, .int .u8 x2, .int .u16 x3, .string x4, .string x5]] w (Ret (.tuple #[.string u, .int .i64 f]) w)) ∧
    (∀ w, Calls Tryd.prog 23 #[.agg #[.int .u8 x1, .int .u8 x2, .int .u16 x3, .string x4, .string x5], .int .u16 id] w (Ret (.agg #[.int .u8 y1, .int .u8 y2, .int .u16 y3, .string y4, .string y5]) w)) ∧
    (∀ w, Calls Tryd.prog 21 #[.agg #[.int .u8 y1, .int .u8 y2, .int .u16 y3, .string y4, .string y5]] w (Ret (.int .u16 q6) w)) ∧
    (∀ w, Calls Tryd.prog 21 #[.agg #[.int .u8 x1, .int .u8 x2, .int .u16 x3, .string x4, .string x5]] w (Ret (.int .u16 q7) w)) ∧
    (is = true → ∀ w, Calls Tryd.prog 23 #[.agg #[.int .u8 y1, .int .u8 y2, .int .u16 y3, .string y4, .string y5], .int .u16 q7] w (Ret (.agg #[.int .u8 x1, .int .u8 x2, .int .u16 x3, .string x4, .string x5]) w)) ∧
    ((is = true ∧ 8 ≤ s.size ∧ u = s ∧ f = 0 ∧ q6 = id) ∨ (is = false ∧ s.size < 8)) := by
  by_cases h : s.size < 8
  · have ho : (Msg.mk 0 0 0 { data := #[] } { data := #[] }).Ok := by refine ⟨?_, ?_, ?_, ?_, ?_⟩ <;> decide
    exact ⟨0, 0, 0, { data := #[] }, { data := #[] }, false, _, _, _, _, _, _, _, _, _, fun w => i_Parse_no s w h, fun w => i_Put_no ⟨0, 0, 0, { data := #[] }, { data := #[] }⟩ w (by decide),
      fun w => i_WithID ⟨0, 0, 0, { data := #[] }, { data := #[] }⟩ id w ho hi, fun w => i_ID (msgID ⟨0, 0, 0, { data := #[] }, { data := #[] }⟩ id) w (msgID_ok ho id), fun w => i_ID ⟨0, 0, 0, { data := #[] }, { data := #[] }⟩ w ho,
      (fun e => absurd e (by decide)), Or.inr ⟨rfl, h⟩⟩
  · have h8 : 8 ≤ s.size := by omega
    have ho : (msgOf s).Ok := msgOf_ok hs
    obtain ⟨e1, e2⟩ := msg_parse_put h8
    have hy : get16 (L (msgID (msgOf s) id).r) 0 = id := by
      unfold msgID
      simp only
      rw [if_pos (by omega)]
      exact id_at (by omega) hi
    have q7b : 0 ≤ get16 (L (msgOf s).r) 0 ∧ get16 (L (msgOf s).r) 0 ≤ 65535 := get16_bd _ _
    have p4 := fun w => i_Put_yes (msgOf s) w ho e2
    rw [e1, S_L] at p4
    have p8 := fun w => i_WithID (msgID (msgOf s) id) (get16 (L (msgOf s).r) 0) w (msgID_ok ho id) q7b
    rw [msgID_back (by omega) id] at p8
    exact ⟨(msgOf s).t, (msgOf s).c, (msgOf s).n, (msgOf s).r, (msgOf s).d, true, _, _, (msgID (msgOf s) id).t, (msgID (msgOf s) id).c, (msgID (msgOf s) id).n, (msgID (msgOf s) id).r, (msgID (msgOf s) id).d, _, _, fun w => i_Parse_yes s w hs h8, p4,
      fun w => i_WithID (msgOf s) id w ho hi, fun w => i_ID (msgID (msgOf s) id) w (msgID_ok ho id), fun w => i_ID (msgOf s) w ho, fun _ => p8, Or.inl ⟨rfl, h8, rfl, rfl, hy⟩⟩

theorem IcmpBack_walk (t c n : Int) (r d s : ByteArray) (id : Int) (w : World) (K0 : Kinds w) (ht : 0 ≤ t ∧ t ≤ 255) (hc : 0 ≤ c ∧ c ≤ 255) (hn : 0 ≤ n ∧ n ≤ 65535) (hr : r.size ≤ 140737488351232) (hd : d.size ≤ 140737488351232) (hs : s.size ≤ 140737488351232) (hi : 0 ≤ id ∧ id ≤ 65535) :
    Calls Tryd.prog 6 #[.agg #[.int .u8 t, .int .u8 c, .int .u16 n, .string r, .string d], .string s, .int .u16 id] w (Ret (.bool true) w) := by
  by_cases hg : 600 < s.size ∨ 600 < r.size ∨ 600 < d.size
  · exact IcmpBack_far t c n r d s id w K0 hg
  obtain ⟨x1, x2, x3, x4, x5, is, u, f, y1, y2, y3, y4, y5, q6, q7, p3, p4, p5, p6, p7, p8, hx⟩ := back_parsed s id hs hi
  by_cases h4 : r.size = 4
  · exact IcmpBack_yes t c n r d s id w K0 ⟨ht, hc, hn, hr, hd⟩ (by omega) h4 (by omega) (by omega) x1 x2 x3 x4 x5 is u f y1 y2 y3 y4 y5 q6 q7 p3 p4 p5 p6 p7 p8 hx
  · exact IcmpBack_no t c n r d s id w K0 ⟨ht, hc, hn, hr, hd⟩ (by omega) h4 (by omega) (by omega) x1 x2 x3 x4 x5 is u f y1 y2 y3 y4 y5 q6 q7 p3 p4 p5 p6 p7 p8 hx
end Go.Proofs.YthmedjlecikbiaaDoor
