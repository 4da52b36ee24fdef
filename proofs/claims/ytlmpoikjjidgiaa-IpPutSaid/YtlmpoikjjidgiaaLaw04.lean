/- The laws of layer 4 that ask the document's answer: the walks. -/
import Derived.Test.YtlmpoikjjidgiaaIp9
set_option linter.unusedVariables false
set_option linter.unusedSimpArgs false
namespace Go.Proofs.Ytlmpoikjjidgiaa
open Go.RowKit
attribute [local go_sem] Oper.semAt_some

set_option maxRecDepth 100000 in
set_option maxHeartbeats 2000000 in
theorem IpParse_walk (s : ByteArray) (w : World) (hs : s.size ≤ 140737488351232) :
    Calls Try.prog 8 #[.string s] w (Ret (.bool true) w) := by
  have c1 := fun W => i_Parse s W hs
  have c2 := fun W => r4_Parse s W hs
  obtain ⟨g, hg⟩ : ∃ g, g = hdRes s := ⟨_, rfl⟩
  obtain ⟨q, hq⟩ : ∃ q, q = ipRest s := ⟨_, rfl⟩
  obtain ⟨b, hb⟩ : ∃ b, b = ipWhy s := ⟨_, rfl⟩
  rw [← hg, ← hq, ← hb] at c1 c2
  clear hg hq hb
  obtain ⟨g0, g1, g2, g3, g4, g5, g6, g7⟩ := g
  simp only [Hd.cells] at c1 c2
  have C1 := hide c1; have C2 := hide c2
  clear c1 c2
  have qb : (g2 == g2) = true := by simp
  by_cases k1 : 2500 < s.size
  · go_enter Try.func8, Try.ntmps8
    go_wp2_with fail
    (with_reducible refine (headed _).mono ?_)
    rintro e w1 ⟨rfl, b1⟩
    replace b1 : Below w.heap.size w w1 := by (refine bstep ?_ b1); (repeat' (first | with_reducible exact Below.refl _ _ | with_reducible refine Below.setCell ?_ (by first | exact Nat.le_refl _ | (dsimp only; omega)) _ | with_reducible refine bstep ?_ (fresh_below _ _) | with_reducible refine Below.drew ?_))
    have z1 : w.heap.size ≤ w1.heap.size := b1.size
    go_wp2_with fail
    go_ret
    exact ⟨rfl, (by (repeat' (first | with_reducible exact b1 | with_reducible exact Below.refl _ _ | with_reducible refine Below.setCell ?_ (by first | exact Nat.le_refl _ | (dsimp only; omega)) _ | with_reducible refine bstep ?_ (fresh_below _ _) | with_reducible refine Below.drew ?_)))⟩
  have k4 : ¬ 2500 < (s.size : Int) := by omega
  go_enter Try.func8, Try.ntmps8
  go_wp2_with fail
  (with_reducible refine (C1.out _).mono ?_)
  rintro e w2 ⟨rfl, b2⟩
  go_wp2_with fail
  (with_reducible refine (C2.out _).mono ?_)
  rintro e w3 ⟨rfl, b3⟩
  have e3 := Cells.below b3 (Cells.new w2 #[.int .u8 g0, .int .u16 g1, .bool g2, .int .u8 g3, .int .u8 g4, .int .u32 g5, .int .u32 g6, .string g7] 48)
  replace b3 : Below w.heap.size w w3 := bstep (bstep b2 (fresh_below _ _)) b3
  have e4 := Cells.alloc e3 (.cells #[.int .u8 g0, .int .u16 g1, .bool g2, .int .u8 g3, .int .u8 g4, .int .u32 g5, .int .u32 g6, .string g7] 51)
  have f4 := Cells.new w3 #[.int .u8 g0, .int .u16 g1, .bool g2, .int .u8 g3, .int .u8 g4, .int .u32 g5, .int .u32 g6, .string g7] 51
  have xe4_0 : (w3.alloc (.cells #[.int .u8 g0, .int .u16 g1, .bool g2, .int .u8 g3, .int .u8 g4, .int .u32 g5, .int .u32 g6, .string g7] 51)).cell? ⟨w2.heap.size, 0, none⟩ = some (.int .u8 g0) := e4.at_ 0
  have xe4_1 : (w3.alloc (.cells #[.int .u8 g0, .int .u16 g1, .bool g2, .int .u8 g3, .int .u8 g4, .int .u32 g5, .int .u32 g6, .string g7] 51)).cell? ⟨w2.heap.size, 1, none⟩ = some (.int .u16 g1) := e4.at_ 1
  have xe4_2 : (w3.alloc (.cells #[.int .u8 g0, .int .u16 g1, .bool g2, .int .u8 g3, .int .u8 g4, .int .u32 g5, .int .u32 g6, .string g7] 51)).cell? ⟨w2.heap.size, 2, none⟩ = some (.bool g2) := e4.at_ 2
  have xe4_3 : (w3.alloc (.cells #[.int .u8 g0, .int .u16 g1, .bool g2, .int .u8 g3, .int .u8 g4, .int .u32 g5, .int .u32 g6, .string g7] 51)).cell? ⟨w2.heap.size, 3, none⟩ = some (.int .u8 g3) := e4.at_ 3
  have xe4_4 : (w3.alloc (.cells #[.int .u8 g0, .int .u16 g1, .bool g2, .int .u8 g3, .int .u8 g4, .int .u32 g5, .int .u32 g6, .string g7] 51)).cell? ⟨w2.heap.size, 4, none⟩ = some (.int .u8 g4) := e4.at_ 4
  have xe4_5 : (w3.alloc (.cells #[.int .u8 g0, .int .u16 g1, .bool g2, .int .u8 g3, .int .u8 g4, .int .u32 g5, .int .u32 g6, .string g7] 51)).cell? ⟨w2.heap.size, 5, none⟩ = some (.int .u32 g5) := e4.at_ 5
  have xe4_6 : (w3.alloc (.cells #[.int .u8 g0, .int .u16 g1, .bool g2, .int .u8 g3, .int .u8 g4, .int .u32 g5, .int .u32 g6, .string g7] 51)).cell? ⟨w2.heap.size, 6, none⟩ = some (.int .u32 g6) := e4.at_ 6
  have xe4_7 : (w3.alloc (.cells #[.int .u8 g0, .int .u16 g1, .bool g2, .int .u8 g3, .int .u8 g4, .int .u32 g5, .int .u32 g6, .string g7] 51)).cell? ⟨w2.heap.size, 7, none⟩ = some (.string g7) := e4.at_ 7
  have xf4_0 : (w3.alloc (.cells #[.int .u8 g0, .int .u16 g1, .bool g2, .int .u8 g3, .int .u8 g4, .int .u32 g5, .int .u32 g6, .string g7] 51)).cell? ⟨w3.heap.size, 0, none⟩ = some (.int .u8 g0) := f4.at_ 0
  have xf4_1 : (w3.alloc (.cells #[.int .u8 g0, .int .u16 g1, .bool g2, .int .u8 g3, .int .u8 g4, .int .u32 g5, .int .u32 g6, .string g7] 51)).cell? ⟨w3.heap.size, 1, none⟩ = some (.int .u16 g1) := f4.at_ 1
  have xf4_2 : (w3.alloc (.cells #[.int .u8 g0, .int .u16 g1, .bool g2, .int .u8 g3, .int .u8 g4, .int .u32 g5, .int .u32 g6, .string g7] 51)).cell? ⟨w3.heap.size, 2, none⟩ = some (.bool g2) := f4.at_ 2
  have xf4_3 : (w3.alloc (.cells #[.int .u8 g0, .int .u16 g1, .bool g2, .int .u8 g3, .int .u8 g4, .int .u32 g5, .int .u32 g6, .string g7] 51)).cell? ⟨w3.heap.size, 3, none⟩ = some (.int .u8 g3) := f4.at_ 3
  have xf4_4 : (w3.alloc (.cells #[.int .u8 g0, .int .u16 g1, .bool g2, .int .u8 g3, .int .u8 g4, .int .u32 g5, .int .u32 g6, .string g7] 51)).cell? ⟨w3.heap.size, 4, none⟩ = some (.int .u8 g4) := f4.at_ 4
  have xf4_5 : (w3.alloc (.cells #[.int .u8 g0, .int .u16 g1, .bool g2, .int .u8 g3, .int .u8 g4, .int .u32 g5, .int .u32 g6, .string g7] 51)).cell? ⟨w3.heap.size, 5, none⟩ = some (.int .u32 g5) := f4.at_ 5
  have xf4_6 : (w3.alloc (.cells #[.int .u8 g0, .int .u16 g1, .bool g2, .int .u8 g3, .int .u8 g4, .int .u32 g5, .int .u32 g6, .string g7] 51)).cell? ⟨w3.heap.size, 6, none⟩ = some (.int .u32 g6) := f4.at_ 6
  have xf4_7 : (w3.alloc (.cells #[.int .u8 g0, .int .u16 g1, .bool g2, .int .u8 g3, .int .u8 g4, .int .u32 g5, .int .u32 g6, .string g7] 51)).cell? ⟨w3.heap.size, 7, none⟩ = some (.string g7) := f4.at_ 7
  go_wp2_with fail
  (with_reducible refine (headed _).mono ?_)
  rintro e w5 ⟨rfl, b5⟩
  replace b5 : Below w.heap.size w w5 := by (refine bstep ?_ b5); (repeat' (first | with_reducible exact b3 | with_reducible exact Below.refl _ _ | with_reducible refine Below.setCell ?_ (by first | exact Nat.le_refl _ | (dsimp only; omega)) _ | with_reducible refine bstep ?_ (fresh_below _ _) | with_reducible refine Below.drew ?_))
  have z5 : w.heap.size ≤ w5.heap.size := b5.size
  go_wp2_with fail
  go_ret
  exact ⟨rfl, (by (repeat' (first | with_reducible exact b5 | with_reducible exact Below.refl _ _ | with_reducible refine Below.setCell ?_ (by first | exact Nat.le_refl _ | (dsimp only; omega)) _ | with_reducible refine bstep ?_ (fresh_below _ _) | with_reducible refine Below.drew ?_)))⟩

set_option maxRecDepth 100000 in
set_option maxHeartbeats 2000000 in
theorem IpPut_walk (t i : Int) (f : Bool) (l p s d : Int) (o q : ByteArray) (w : World) (k0 : 0 ≤ t ∧ t ≤ 255) (k1 : 0 ≤ i ∧ i ≤ 65535) (k3 : 0 ≤ l ∧ l ≤ 255) (k4 : 0 ≤ p ∧ p ≤ 255) (k5 : 0 ≤ s ∧ s ≤ 4294967295) (k6 : 0 ≤ d ∧ d ≤ 4294967295) (ho : o.size ≤ 140737488351232) (hq : q.size ≤ 140737488351232) :
    Calls Try.prog 9 #[.agg #[.int .u8 t, .int .u16 i, .bool f, .int .u8 l, .int .u8 p, .int .u32 s, .int .u32 d, .string o], .string q] w (Ret (.bool true) w) := by
  have c1 := fun W => i_Put t i l p s d f o q W ⟨k0, k1, k3, k4, k5, k6, ho⟩ hq
  have c2 := fun W => r4_Put t i l p s d f o q W ⟨k0, k1, k3, k4, k5, k6, ho⟩ hq
  obtain ⟨tx, htx⟩ : ∃ x, x = ipText (Hd.mk t i f l p s d o) q := ⟨_, rfl⟩
  obtain ⟨er, her⟩ : ∃ x, x = ipErr (Hd.mk t i f l p s d o) q := ⟨_, rfl⟩
  rw [← htx, ← her] at c1 c2
  have C1 := hide c1; have C2 := hide c2
  clear c1 c2 htx her k0 k1 k3 k4 k5 k6
  by_cases h1 : 100 < o.size
  · go_enter Try.func9, Try.ntmps9
    go_wp2_with fail
    (with_reducible refine (headed _).mono ?_)
    rintro e w1 ⟨rfl, b1⟩
    replace b1 : Below w.heap.size w w1 := by (refine bstep ?_ b1); (repeat' (first | with_reducible exact Below.refl _ _ | with_reducible refine Below.setCell ?_ (by first | exact Nat.le_refl _ | (dsimp only; omega)) _ | with_reducible refine bstep ?_ (fresh_below _ _) | with_reducible refine Below.drew ?_))
    have z1 : w.heap.size ≤ w1.heap.size := b1.size
    go_wp2_with fail
    go_ret
    exact ⟨rfl, (by (repeat' (first | with_reducible exact b1 | with_reducible exact Below.refl _ _ | with_reducible refine Below.setCell ?_ (by first | exact Nat.le_refl _ | (dsimp only; omega)) _ | with_reducible refine bstep ?_ (fresh_below _ _) | with_reducible refine Below.drew ?_)))⟩
  by_cases h2 : 2100 < q.size
  · go_enter Try.func9, Try.ntmps9
    go_wp2_with fail
    (with_reducible refine (headed _).mono ?_)
    rintro e w1 ⟨rfl, b1⟩
    replace b1 : Below w.heap.size w w1 := by (refine bstep ?_ b1); (repeat' (first | with_reducible exact Below.refl _ _ | with_reducible refine Below.setCell ?_ (by first | exact Nat.le_refl _ | (dsimp only; omega)) _ | with_reducible refine bstep ?_ (fresh_below _ _) | with_reducible refine Below.drew ?_))
    have z1 : w.heap.size ≤ w1.heap.size := b1.size
    go_wp2_with fail
    go_ret
    exact ⟨rfl, (by (repeat' (first | with_reducible exact b1 | with_reducible exact Below.refl _ _ | with_reducible refine Below.setCell ?_ (by first | exact Nat.le_refl _ | (dsimp only; omega)) _ | with_reducible refine bstep ?_ (fresh_below _ _) | with_reducible refine Below.drew ?_)))⟩
  have h4 : ¬ 100 < (o.size : Int) := by omega
  have h5 : ¬ 2100 < (q.size : Int) := by omega
  go_enter Try.func9, Try.ntmps9
  have d0 := Cells.new w #[.int .u8 t, .int .u16 i, .bool f, .int .u8 l, .int .u8 p, .int .u32 s, .int .u32 d, .string o] 48
  go_wp2_with fail
  (with_reducible refine (C1.out _).mono ?_)
  rintro e w1 ⟨rfl, b1⟩
  have d1 := Cells.below b1 d0
  replace b1 : Below w.heap.size w w1 := bstep (fresh_below _ _) b1
  have xd1_0 : w1.cell? ⟨w.heap.size, 0, none⟩ = some (.int .u8 t) := d1.at_ 0
  have xd1_1 : w1.cell? ⟨w.heap.size, 1, none⟩ = some (.int .u16 i) := d1.at_ 1
  have xd1_2 : w1.cell? ⟨w.heap.size, 2, none⟩ = some (.bool f) := d1.at_ 2
  have xd1_3 : w1.cell? ⟨w.heap.size, 3, none⟩ = some (.int .u8 l) := d1.at_ 3
  have xd1_4 : w1.cell? ⟨w.heap.size, 4, none⟩ = some (.int .u8 p) := d1.at_ 4
  have xd1_5 : w1.cell? ⟨w.heap.size, 5, none⟩ = some (.int .u32 s) := d1.at_ 5
  have xd1_6 : w1.cell? ⟨w.heap.size, 6, none⟩ = some (.int .u32 d) := d1.at_ 6
  have xd1_7 : w1.cell? ⟨w.heap.size, 7, none⟩ = some (.string o) := d1.at_ 7
  go_wp2_with fail
  (with_reducible refine (C2.out _).mono ?_)
  rintro e w2 ⟨rfl, b2⟩
  replace b2 : Below w.heap.size w w2 := bstep b1 b2
  go_wp2_with fail
  (with_reducible refine (headed _).mono ?_)
  rintro e w5 ⟨rfl, b5⟩
  replace b5 : Below w.heap.size w w5 := by (refine bstep ?_ b5); (repeat' (first | with_reducible exact b2 | with_reducible exact Below.refl _ _ | with_reducible refine Below.setCell ?_ (by first | exact Nat.le_refl _ | (dsimp only; omega)) _ | with_reducible refine bstep ?_ (fresh_below _ _) | with_reducible refine Below.drew ?_))
  have z5 : w.heap.size ≤ w5.heap.size := b5.size
  go_wp2_with fail
  go_ret
  exact ⟨rfl, (by (repeat' (first | with_reducible exact b5 | with_reducible exact Below.refl _ _ | with_reducible refine Below.setCell ?_ (by first | exact Nat.le_refl _ | (dsimp only; omega)) _ | with_reducible refine bstep ?_ (fresh_below _ _) | with_reducible refine Below.drew ?_)))⟩
end Go.Proofs.Ytlmpoikjjidgiaa
