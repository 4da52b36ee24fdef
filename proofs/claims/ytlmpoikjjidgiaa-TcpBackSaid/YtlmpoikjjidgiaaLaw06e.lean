/- Segments, the statements TcpTell, TcpBack, TcpSame: the walks. -/
import Derived.Test.YtlmpoikjjidgiaaLaw06
import Derived.Test.YtlmpoikjjidgiaaLaw06d
set_option linter.unusedVariables false
namespace Go.Proofs.Ytlmpoikjjidgiaa
open Go.RowKit
attribute [local go_sem] Oper.semAt_some

theorem t_Parse (s : ByteArray) (w : World) (hs : s.size ≤ 140737488351232) :
    Calls Try.prog 14 #[.string s] w (Ret (.tuple #[.agg (segRes s).cells, .string (segRest s), .bool (tcpIs s)]) w) := by
  by_cases h : tcpIs s = true
  · rw [show segRes s = segOf s from if_pos h, show segRest s = _ from if_pos h, h]
    exact t_Parse_yes s w hs h
  · rw [show segRes s = segNone from if_neg h, show segRest s = _ from if_neg h, show tcpIs s = false from by simpa using h]
    exact t_Parse_no s w hs (by simpa using h)
theorem r6_Parse (s : ByteArray) (w : World) (hs : s.size ≤ 140737488351232) :
    Calls Try.prog 15 #[.string s] w (Ret (.tuple #[.agg (segRes s).cells, .string (segRest s), .bool (tcpIs s)]) w) := by
  by_cases h : tcpIs s = true
  · rw [show segRes s = segOf s from if_pos h, show segRest s = _ from if_pos h, h]
    exact r6_Parse_yes s w hs h
  · rw [show segRes s = segNone from if_neg h, show segRest s = _ from if_neg h, show tcpIs s = false from by simpa using h]
    exact r6_Parse_no s w hs (by simpa using h)
theorem t_Put (h : Seg) (p : ByteArray) (w : World) (hk : h.Ok) (hp : p.size ≤ 140737488351232) :
    Calls Try.prog 16 #[.agg h.cells, .string p] w (Ret (.tuple #[.string (h.text p), .int .i64 h.err]) w) := by
  by_cases hm : h.may = true
  · rw [show h.text p = _ from if_pos hm, show h.err = _ from if_pos hm]
    exact t_Put_yes h.s h.d h.q h.k h.l h.f h.w h.n h.u h.o p w hk hp hm
  · rw [show h.text p = _ from if_neg hm, show h.err = _ from if_neg hm]
    exact t_Put_no h.s h.d h.q h.k h.l h.f h.w h.n h.u h.o p w hk.2.2.2.2.1 hk.2.2.2.2.2.2.2.2.2 (by simpa using hm)
theorem r6_Put (h : Seg) (p : ByteArray) (w : World) (hk : h.Ok) (hp : p.size ≤ 140737488351232) :
    Calls Try.prog 17 #[.agg h.cells, .string p] w (Ret (.tuple #[.string (h.text p), .int .i64 h.err]) w) := by
  by_cases hm : h.may = true
  · rw [show h.text p = _ from if_pos hm, show h.err = _ from if_pos hm]
    exact r6_Put_yes h.s h.d h.q h.k h.l h.f h.w h.n h.u h.o p w hk hp hm
  · rw [show h.text p = _ from if_neg hm, show h.err = _ from if_neg hm]
    exact r6_Put_no h.s h.d h.q h.k h.l h.f h.w h.n h.u h.o p w hk.2.2.2.2.1 hk.2.2.2.2.2.2.2.2.2 (by simpa using hm)

set_option maxRecDepth 100000 in
set_option maxHeartbeats 2000000 in
theorem TcpTell_seg (s : ByteArray) (h : Seg) (p : ByteArray) (w : World) (hs : s.size ≤ 140737488351232) (hk : h.Ok) (hp : p.size ≤ 140737488351232) :
    Calls Try.prog 3 #[.string s, .agg h.cells, .string p] w (Ret (.bool true) w) := by
  have ho : h.o.size ≤ 140737488351232 := hk.2.2.2.2.2.2.2.2.2
  have c1 := fun W => t_Parse s W hs
  have c2 := fun W => r6_Parse s W hs
  have c3 := fun W => t_Put h p W hk hp
  have c4 := fun W => r6_Put h p W hk hp
  obtain ⟨g, hg⟩ : ∃ g, g = segRes s := ⟨_, rfl⟩
  obtain ⟨q, hq⟩ : ∃ q, q = segRest s := ⟨_, rfl⟩
  obtain ⟨b, hb⟩ : ∃ b, b = tcpIs s := ⟨_, rfl⟩
  obtain ⟨t, ht⟩ : ∃ t, t = h.text p := ⟨_, rfl⟩
  obtain ⟨er, her⟩ : ∃ er, er = h.err := ⟨_, rfl⟩
  rw [← hg, ← hq, ← hb] at c1 c2
  rw [← ht, ← her] at c3 c4
  clear hg hq hb ht her hk
  obtain ⟨h0, h1, h2, h3, h4, h5, h6, h7, h8, o⟩ := h
  obtain ⟨g0, g1, g2, g3, g4, g5, g6, g7, g8, go⟩ := g
  simp only [Seg.cells] at c1 c2 c3 c4 ho ⊢
  have C1 := hide c1; have C2 := hide c2; have C3 := hide c3; have C4 := hide c4
  clear c1 c2 c3 c4
  by_cases k1 : 600 < s.size
  · go_enter Try.func3, Try.ntmps3
    go_wp2_with fail
    (with_reducible refine (begun _).mono ?_)
    rintro e w1 ⟨rfl, b1⟩
    replace b1 : Below w.heap.size w w1 := by (refine bstep ?_ b1); (repeat' (first | with_reducible exact Below.refl _ _ | with_reducible refine Below.setCell ?_ (by first | exact Nat.le_refl _ | (dsimp only; omega)) _ | with_reducible refine bstep ?_ (fresh_below _ _) | with_reducible refine Below.drew ?_))
    have z1 : w.heap.size ≤ w1.heap.size := b1.size
    go_wp2_with fail
    go_ret
    exact ⟨rfl, (by (repeat' (first | with_reducible exact b1 | with_reducible exact Below.refl _ _ | with_reducible refine Below.setCell ?_ (by first | exact Nat.le_refl _ | (dsimp only; omega)) _ | with_reducible refine bstep ?_ (fresh_below _ _) | with_reducible refine Below.drew ?_)))⟩
  by_cases k2 : 600 < p.size
  · go_enter Try.func3, Try.ntmps3
    go_wp2_with fail
    (with_reducible refine (begun _).mono ?_)
    rintro e w1 ⟨rfl, b1⟩
    replace b1 : Below w.heap.size w w1 := by (refine bstep ?_ b1); (repeat' (first | with_reducible exact Below.refl _ _ | with_reducible refine Below.setCell ?_ (by first | exact Nat.le_refl _ | (dsimp only; omega)) _ | with_reducible refine bstep ?_ (fresh_below _ _) | with_reducible refine Below.drew ?_))
    have z1 : w.heap.size ≤ w1.heap.size := b1.size
    go_wp2_with fail
    go_ret
    exact ⟨rfl, (by (repeat' (first | with_reducible exact b1 | with_reducible exact Below.refl _ _ | with_reducible refine Below.setCell ?_ (by first | exact Nat.le_refl _ | (dsimp only; omega)) _ | with_reducible refine bstep ?_ (fresh_below _ _) | with_reducible refine Below.drew ?_)))⟩
  by_cases k3 : 600 < o.size
  · go_enter Try.func3, Try.ntmps3
    go_wp2_with fail
    (with_reducible refine (begun _).mono ?_)
    rintro e w1 ⟨rfl, b1⟩
    replace b1 : Below w.heap.size w w1 := by (refine bstep ?_ b1); (repeat' (first | with_reducible exact Below.refl _ _ | with_reducible refine Below.setCell ?_ (by first | exact Nat.le_refl _ | (dsimp only; omega)) _ | with_reducible refine bstep ?_ (fresh_below _ _) | with_reducible refine Below.drew ?_))
    have z1 : w.heap.size ≤ w1.heap.size := b1.size
    go_wp2_with fail
    go_ret
    exact ⟨rfl, (by (repeat' (first | with_reducible exact b1 | with_reducible exact Below.refl _ _ | with_reducible refine Below.setCell ?_ (by first | exact Nat.le_refl _ | (dsimp only; omega)) _ | with_reducible refine bstep ?_ (fresh_below _ _) | with_reducible refine Below.drew ?_)))⟩
  have k4 : ¬ 600 < (s.size : Int) := by omega
  have k5 : ¬ 600 < (p.size : Int) := by omega
  have k6 : ¬ 600 < (o.size : Int) := by omega
  go_enter Try.func3, Try.ntmps3
  have d0 := Cells.new w #[.int .u16 h0, .int .u16 h1, .int .u32 h2, .int .u32 h3, .int .u8 h4, .int .u8 h5, .int .u16 h6, .int .u16 h7, .int .u16 h8, .string o] 25
  go_wp2_with fail
  (with_reducible refine (C1.out _).mono ?_)
  rintro e w1 ⟨rfl, b1⟩
  have d1 := Cells.below b1 d0
  replace b1 : Below w.heap.size w w1 := bstep (fresh_below _ _) b1
  go_wp2_with fail
  (with_reducible refine (C2.out _).mono ?_)
  rintro e w2 ⟨rfl, b2⟩
  have e2 := Cells.below b2 (Cells.new w1 #[.int .u16 g0, .int .u16 g1, .int .u32 g2, .int .u32 g3, .int .u8 g4, .int .u8 g5, .int .u16 g6, .int .u16 g7, .int .u16 g8, .string go] 25)
  have d2 := Cells.up d1 (fresh_below w1 (.cells #[.int .u16 g0, .int .u16 g1, .int .u32 g2, .int .u32 g3, .int .u8 g4, .int .u8 g5, .int .u16 g6, .int .u16 g7, .int .u16 g8, .string go] 25)) b2
  replace b2 : Below w.heap.size w w2 := bstep (by (repeat' (first | with_reducible exact b1 | with_reducible exact Below.refl _ _ | with_reducible refine Below.setCell ?_ (by first | exact Nat.le_refl _ | (dsimp only; omega)) _ | with_reducible refine bstep ?_ (fresh_below _ _) | with_reducible refine Below.drew ?_))) b2
  have d3 := Cells.alloc d2 (.cells #[.int .u16 g0, .int .u16 g1, .int .u32 g2, .int .u32 g3, .int .u8 g4, .int .u8 g5, .int .u16 g6, .int .u16 g7, .int .u16 g8, .string go] 29)
  have e3 := Cells.alloc e2 (.cells #[.int .u16 g0, .int .u16 g1, .int .u32 g2, .int .u32 g3, .int .u8 g4, .int .u8 g5, .int .u16 g6, .int .u16 g7, .int .u16 g8, .string go] 29)
  have f3 := Cells.new w2 #[.int .u16 g0, .int .u16 g1, .int .u32 g2, .int .u32 g3, .int .u8 g4, .int .u8 g5, .int .u16 g6, .int .u16 g7, .int .u16 g8, .string go] 29
  have xd3_0 : (w2.alloc (.cells #[.int .u16 g0, .int .u16 g1, .int .u32 g2, .int .u32 g3, .int .u8 g4, .int .u8 g5, .int .u16 g6, .int .u16 g7, .int .u16 g8, .string go] 29)).cell? ⟨w.heap.size, 0, none⟩ = some (.int .u16 h0) := d3.at_ 0
  have xd3_1 : (w2.alloc (.cells #[.int .u16 g0, .int .u16 g1, .int .u32 g2, .int .u32 g3, .int .u8 g4, .int .u8 g5, .int .u16 g6, .int .u16 g7, .int .u16 g8, .string go] 29)).cell? ⟨w.heap.size, 1, none⟩ = some (.int .u16 h1) := d3.at_ 1
  have xd3_2 : (w2.alloc (.cells #[.int .u16 g0, .int .u16 g1, .int .u32 g2, .int .u32 g3, .int .u8 g4, .int .u8 g5, .int .u16 g6, .int .u16 g7, .int .u16 g8, .string go] 29)).cell? ⟨w.heap.size, 2, none⟩ = some (.int .u32 h2) := d3.at_ 2
  have xd3_3 : (w2.alloc (.cells #[.int .u16 g0, .int .u16 g1, .int .u32 g2, .int .u32 g3, .int .u8 g4, .int .u8 g5, .int .u16 g6, .int .u16 g7, .int .u16 g8, .string go] 29)).cell? ⟨w.heap.size, 3, none⟩ = some (.int .u32 h3) := d3.at_ 3
  have xd3_4 : (w2.alloc (.cells #[.int .u16 g0, .int .u16 g1, .int .u32 g2, .int .u32 g3, .int .u8 g4, .int .u8 g5, .int .u16 g6, .int .u16 g7, .int .u16 g8, .string go] 29)).cell? ⟨w.heap.size, 4, none⟩ = some (.int .u8 h4) := d3.at_ 4
  have xd3_5 : (w2.alloc (.cells #[.int .u16 g0, .int .u16 g1, .int .u32 g2, .int .u32 g3, .int .u8 g4, .int .u8 g5, .int .u16 g6, .int .u16 g7, .int .u16 g8, .string go] 29)).cell? ⟨w.heap.size, 5, none⟩ = some (.int .u8 h5) := d3.at_ 5
  have xd3_6 : (w2.alloc (.cells #[.int .u16 g0, .int .u16 g1, .int .u32 g2, .int .u32 g3, .int .u8 g4, .int .u8 g5, .int .u16 g6, .int .u16 g7, .int .u16 g8, .string go] 29)).cell? ⟨w.heap.size, 6, none⟩ = some (.int .u16 h6) := d3.at_ 6
  have xd3_7 : (w2.alloc (.cells #[.int .u16 g0, .int .u16 g1, .int .u32 g2, .int .u32 g3, .int .u8 g4, .int .u8 g5, .int .u16 g6, .int .u16 g7, .int .u16 g8, .string go] 29)).cell? ⟨w.heap.size, 7, none⟩ = some (.int .u16 h7) := d3.at_ 7
  have xd3_8 : (w2.alloc (.cells #[.int .u16 g0, .int .u16 g1, .int .u32 g2, .int .u32 g3, .int .u8 g4, .int .u8 g5, .int .u16 g6, .int .u16 g7, .int .u16 g8, .string go] 29)).cell? ⟨w.heap.size, 8, none⟩ = some (.int .u16 h8) := d3.at_ 8
  have xd3_9 : (w2.alloc (.cells #[.int .u16 g0, .int .u16 g1, .int .u32 g2, .int .u32 g3, .int .u8 g4, .int .u8 g5, .int .u16 g6, .int .u16 g7, .int .u16 g8, .string go] 29)).cell? ⟨w.heap.size, 9, none⟩ = some (.string o) := d3.at_ 9
  clear d0 d1 d2 e2
  go_wp2_with fail
  (with_reducible refine (C3.out _).mono ?_)
  rintro e w3 ⟨rfl, b3⟩
  replace d3 := Cells.below b3 d3
  replace e3 := Cells.below b3 e3
  replace f3 := Cells.below b3 f3
  replace b3 : Below w.heap.size w w3 := bstep (by (repeat' (first | with_reducible exact b2 | with_reducible exact Below.refl _ _ | with_reducible refine Below.setCell ?_ (by first | exact Nat.le_refl _ | (dsimp only; omega)) _ | with_reducible refine bstep ?_ (fresh_below _ _) | with_reducible refine Below.drew ?_))) b3
  clear xd3_0 xd3_1 xd3_2 xd3_3 xd3_4 xd3_5 xd3_6 xd3_7 xd3_8 xd3_9
  have xd3_0 : w3.cell? ⟨w.heap.size, 0, none⟩ = some (.int .u16 h0) := d3.at_ 0
  have xd3_1 : w3.cell? ⟨w.heap.size, 1, none⟩ = some (.int .u16 h1) := d3.at_ 1
  have xd3_2 : w3.cell? ⟨w.heap.size, 2, none⟩ = some (.int .u32 h2) := d3.at_ 2
  have xd3_3 : w3.cell? ⟨w.heap.size, 3, none⟩ = some (.int .u32 h3) := d3.at_ 3
  have xd3_4 : w3.cell? ⟨w.heap.size, 4, none⟩ = some (.int .u8 h4) := d3.at_ 4
  have xd3_5 : w3.cell? ⟨w.heap.size, 5, none⟩ = some (.int .u8 h5) := d3.at_ 5
  have xd3_6 : w3.cell? ⟨w.heap.size, 6, none⟩ = some (.int .u16 h6) := d3.at_ 6
  have xd3_7 : w3.cell? ⟨w.heap.size, 7, none⟩ = some (.int .u16 h7) := d3.at_ 7
  have xd3_8 : w3.cell? ⟨w.heap.size, 8, none⟩ = some (.int .u16 h8) := d3.at_ 8
  have xd3_9 : w3.cell? ⟨w.heap.size, 9, none⟩ = some (.string o) := d3.at_ 9
  go_wp2_with fail
  (with_reducible refine (C4.out _).mono ?_)
  rintro e w4 ⟨rfl, b4⟩
  replace e3 := Cells.below b4 e3
  replace f3 := Cells.below b4 f3
  replace b4 : Below w.heap.size w w4 := bstep b3 b4
  clear xd3_0 xd3_1 xd3_2 xd3_3 xd3_4 xd3_5 xd3_6 xd3_7 xd3_8 xd3_9
  clear d3
  have xe3_0 : w4.cell? ⟨w1.heap.size, 0, none⟩ = some (.int .u16 g0) := e3.at_ 0
  have xe3_1 : w4.cell? ⟨w1.heap.size, 1, none⟩ = some (.int .u16 g1) := e3.at_ 1
  have xe3_2 : w4.cell? ⟨w1.heap.size, 2, none⟩ = some (.int .u32 g2) := e3.at_ 2
  have xe3_3 : w4.cell? ⟨w1.heap.size, 3, none⟩ = some (.int .u32 g3) := e3.at_ 3
  have xe3_4 : w4.cell? ⟨w1.heap.size, 4, none⟩ = some (.int .u8 g4) := e3.at_ 4
  have xe3_5 : w4.cell? ⟨w1.heap.size, 5, none⟩ = some (.int .u8 g5) := e3.at_ 5
  have xe3_6 : w4.cell? ⟨w1.heap.size, 6, none⟩ = some (.int .u16 g6) := e3.at_ 6
  have xe3_7 : w4.cell? ⟨w1.heap.size, 7, none⟩ = some (.int .u16 g7) := e3.at_ 7
  have xe3_8 : w4.cell? ⟨w1.heap.size, 8, none⟩ = some (.int .u16 g8) := e3.at_ 8
  have xe3_9 : w4.cell? ⟨w1.heap.size, 9, none⟩ = some (.string go) := e3.at_ 9
  have xf3_0 : w4.cell? ⟨w2.heap.size, 0, none⟩ = some (.int .u16 g0) := f3.at_ 0
  have xf3_1 : w4.cell? ⟨w2.heap.size, 1, none⟩ = some (.int .u16 g1) := f3.at_ 1
  have xf3_2 : w4.cell? ⟨w2.heap.size, 2, none⟩ = some (.int .u32 g2) := f3.at_ 2
  have xf3_3 : w4.cell? ⟨w2.heap.size, 3, none⟩ = some (.int .u32 g3) := f3.at_ 3
  have xf3_4 : w4.cell? ⟨w2.heap.size, 4, none⟩ = some (.int .u8 g4) := f3.at_ 4
  have xf3_5 : w4.cell? ⟨w2.heap.size, 5, none⟩ = some (.int .u8 g5) := f3.at_ 5
  have xf3_6 : w4.cell? ⟨w2.heap.size, 6, none⟩ = some (.int .u16 g6) := f3.at_ 6
  have xf3_7 : w4.cell? ⟨w2.heap.size, 7, none⟩ = some (.int .u16 g7) := f3.at_ 7
  have xf3_8 : w4.cell? ⟨w2.heap.size, 8, none⟩ = some (.int .u16 g8) := f3.at_ 8
  have xf3_9 : w4.cell? ⟨w2.heap.size, 9, none⟩ = some (.string go) := f3.at_ 9
  go_wp2_with fail
  (with_reducible refine (begun _).mono ?_)
  rintro e w5 ⟨rfl, b5⟩
  replace b5 : Below w.heap.size w w5 := by (refine bstep ?_ b5); (repeat' (first | with_reducible exact b4 | with_reducible exact Below.refl _ _ | with_reducible refine Below.setCell ?_ (by first | exact Nat.le_refl _ | (dsimp only; omega)) _ | with_reducible refine bstep ?_ (fresh_below _ _) | with_reducible refine Below.drew ?_))
  have z5 : w.heap.size ≤ w5.heap.size := b5.size
  go_wp2_with fail
  go_ret
  exact ⟨rfl, (by (repeat' (first | with_reducible exact b5 | with_reducible exact Below.refl _ _ | with_reducible refine Below.setCell ?_ (by first | exact Nat.le_refl _ | (dsimp only; omega)) _ | with_reducible refine bstep ?_ (fresh_below _ _) | with_reducible refine Below.drew ?_)))⟩
theorem TcpTell_walk (s : ByteArray) (h0 h1 h2 h3 h4 h5 h6 h7 h8 : Int) (o p : ByteArray) (w : World) (hs : s.size ≤ 140737488351232) (k0 : 0 ≤ h0 ∧ h0 ≤ 65535) (k1 : 0 ≤ h1 ∧ h1 ≤ 65535) (k2 : 0 ≤ h2 ∧ h2 ≤ 4294967295) (k3 : 0 ≤ h3 ∧ h3 ≤ 4294967295) (k4 : 0 ≤ h4 ∧ h4 ≤ 255) (k5 : 0 ≤ h5 ∧ h5 ≤ 255) (k6 : 0 ≤ h6 ∧ h6 ≤ 65535) (k7 : 0 ≤ h7 ∧ h7 ≤ 65535) (k8 : 0 ≤ h8 ∧ h8 ≤ 65535) (ho : o.size ≤ 140737488351232) (hp : p.size ≤ 140737488351232) :
    Calls Try.prog 3 #[.string s, .agg #[.int .u16 h0, .int .u16 h1, .int .u32 h2, .int .u32 h3, .int .u8 h4, .int .u8 h5, .int .u16 h6, .int .u16 h7, .int .u16 h8, .string o], .string p] w (Ret (.bool true) w) :=
  TcpTell_seg s (Seg.mk h0 h1 h2 h3 h4 h5 h6 h7 h8 o) p w hs ⟨k0, k1, k2, k3, k4, k5, k6, k7, k8, ho⟩ hp
end Go.Proofs.Ytlmpoikjjidgiaa
