/- What is put is parsed as it was: the walk. -/
import Derived.Test.YtlmpoikjjidgiaaIp9
set_option linter.unusedVariables false
set_option linter.unusedSimpArgs false
namespace Go.Proofs.Ytlmpoikjjidgiaa
open Go.RowKit
attribute [local go_sem] Oper.semAt_some

set_option maxRecDepth 100000 in
set_option maxHeartbeats 2000000 in
theorem IpBack_walk (t i : Int) (f : Bool) (l p s d : Int) (o q b : ByteArray) (w : World) (k0 : 0 ≤ t ∧ t ≤ 255) (k1 : 0 ≤ i ∧ i ≤ 65535) (k3 : 0 ≤ l ∧ l ≤ 255) (k4 : 0 ≤ p ∧ p ≤ 255) (k5 : 0 ≤ s ∧ s ≤ 4294967295) (k6 : 0 ≤ d ∧ d ≤ 4294967295) (ho : o.size ≤ 140737488351232) (hq : q.size ≤ 140737488351232) (hb : b.size ≤ 140737488351232) :
    Calls Try.prog 10 #[.agg #[.int .u8 t, .int .u16 i, .bool f, .int .u8 l, .int .u8 p, .int .u32 s, .int .u32 d, .string o], .string q, .string b] w (Ret (.bool true) w) := by
  by_cases h1 : 100 < o.size
  · go_enter Try.func10, Try.ntmps10
    go_wp2_with fail
    (with_reducible refine (headed _).mono ?_)
    rintro e w1 ⟨rfl, b1⟩
    replace b1 : Below w.heap.size w w1 := by (refine bstep ?_ b1); (repeat' (first | with_reducible exact Below.refl _ _ | with_reducible refine Below.setCell ?_ (by first | exact Nat.le_refl _ | (dsimp only; omega)) _ | with_reducible refine bstep ?_ (fresh_below _ _) | with_reducible refine Below.drew ?_))
    have z1 : w.heap.size ≤ w1.heap.size := b1.size
    go_wp2_with fail
    go_ret
    exact ⟨rfl, (by (repeat' (first | with_reducible exact b1 | with_reducible exact Below.refl _ _ | with_reducible refine Below.setCell ?_ (by first | exact Nat.le_refl _ | (dsimp only; omega)) _ | with_reducible refine bstep ?_ (fresh_below _ _) | with_reducible refine Below.drew ?_)))⟩
  by_cases h2 : 2100 < q.size
  · go_enter Try.func10, Try.ntmps10
    go_wp2_with fail
    (with_reducible refine (headed _).mono ?_)
    rintro e w1 ⟨rfl, b1⟩
    replace b1 : Below w.heap.size w w1 := by (refine bstep ?_ b1); (repeat' (first | with_reducible exact Below.refl _ _ | with_reducible refine Below.setCell ?_ (by first | exact Nat.le_refl _ | (dsimp only; omega)) _ | with_reducible refine bstep ?_ (fresh_below _ _) | with_reducible refine Below.drew ?_))
    have z1 : w.heap.size ≤ w1.heap.size := b1.size
    go_wp2_with fail
    go_ret
    exact ⟨rfl, (by (repeat' (first | with_reducible exact b1 | with_reducible exact Below.refl _ _ | with_reducible refine Below.setCell ?_ (by first | exact Nat.le_refl _ | (dsimp only; omega)) _ | with_reducible refine bstep ?_ (fresh_below _ _) | with_reducible refine Below.drew ?_)))⟩
  by_cases h3 : 300 < b.size
  · go_enter Try.func10, Try.ntmps10
    go_wp2_with fail
    (with_reducible refine (headed _).mono ?_)
    rintro e w1 ⟨rfl, b1⟩
    replace b1 : Below w.heap.size w w1 := by (refine bstep ?_ b1); (repeat' (first | with_reducible exact Below.refl _ _ | with_reducible refine Below.setCell ?_ (by first | exact Nat.le_refl _ | (dsimp only; omega)) _ | with_reducible refine bstep ?_ (fresh_below _ _) | with_reducible refine Below.drew ?_))
    have z1 : w.heap.size ≤ w1.heap.size := b1.size
    go_wp2_with fail
    go_ret
    exact ⟨rfl, (by (repeat' (first | with_reducible exact b1 | with_reducible exact Below.refl _ _ | with_reducible refine Below.setCell ?_ (by first | exact Nat.le_refl _ | (dsimp only; omega)) _ | with_reducible refine bstep ?_ (fresh_below _ _) | with_reducible refine Below.drew ?_)))⟩
  have h4 : ¬ 100 < (o.size : Int) := by omega
  have h5 : ¬ 2100 < (q.size : Int) := by omega
  have h6 : ¬ 300 < (b.size : Int) := by omega
  have hk : (Hd.mk t i f l p s d o).Ok := ⟨k0, k1, k3, k4, k5, k6, ho⟩
  have c1 := fun W => i_Put t i l p s d f o q W hk hq
  rcases ipErr_cases (Hd.mk t i f l p s d o) q with ⟨he, hw⟩ | ⟨he, g1, g2, g3⟩ | ⟨he, g1, g2, g3⟩
  · rw [he, show ipText (Hd.mk t i f l p s d o) q = { data := #[] } from ipText_no (by rw [he]; decide)] at c1
    have C1 := hide c1
    clear c1 k0 k1 k3 k4 k5 k6 hk he
    simp only at hw
    rcases hw with hw | ⟨hw1, hw⟩
    · by_cases hr : (o.size : Int) % 4 = 0
      · have q1 : decide ((0 : Int) < (o.size : Int) % 4) = false := by simp; omega
        clear hr
        go_enter Try.func10, Try.ntmps10
        have d0 := Cells.new w #[.int .u8 t, .int .u16 i, .bool f, .int .u8 l, .int .u8 p, .int .u32 s, .int .u32 d, .string o] 48
        go_wp2_with fail
        (with_reducible refine (C1.out _).mono ?_)
        rintro e w1 ⟨rfl, b1⟩
        have d1 := Cells.below b1 d0
        replace b1 : Below w.heap.size w w1 := bstep (fresh_below _ _) b1
        have xd1_0 : w1.cell? ⟨w.heap.size, 0, none⟩ = some (.int .u8 t) := d1.at_ 0
        have xd1_1 : w1.cell? ⟨w.heap.size, 1, none⟩ = some (.int .u16 i) := d1.at_ 1
        have xd1_2 : w1.cell? ⟨w.heap.size, 2, none⟩ = some (.bool f) := d1.at_ 2
        have xd1_3 : w1.cell? ⟨w.heap.size, 3, none⟩ = some (.int .u8 l) := d1.at_ 3
        have xd1_4 : w1.cell? ⟨w.heap.size, 4, none⟩ = some (.int .u8 p) := d1.at_ 4
        have xd1_5 : w1.cell? ⟨w.heap.size, 5, none⟩ = some (.int .u32 s) := d1.at_ 5
        have xd1_6 : w1.cell? ⟨w.heap.size, 6, none⟩ = some (.int .u32 d) := d1.at_ 6
        have xd1_7 : w1.cell? ⟨w.heap.size, 7, none⟩ = some (.string o) := d1.at_ 7
        go_wp2_with fail
        (with_reducible refine (headed _).mono ?_)
        rintro e w5 ⟨rfl, b5⟩
        replace b5 : Below w.heap.size w w5 := by (refine bstep ?_ b5); (repeat' (first | with_reducible exact b1 | with_reducible exact Below.refl _ _ | with_reducible refine Below.setCell ?_ (by first | exact Nat.le_refl _ | (dsimp only; omega)) _ | with_reducible refine bstep ?_ (fresh_below _ _) | with_reducible refine Below.drew ?_))
        have z5 : w.heap.size ≤ w5.heap.size := b5.size
        go_wp2_with fail
        go_ret
        exact ⟨rfl, (by (repeat' (first | with_reducible exact b5 | with_reducible exact Below.refl _ _ | with_reducible refine Below.setCell ?_ (by first | exact Nat.le_refl _ | (dsimp only; omega)) _ | with_reducible refine bstep ?_ (fresh_below _ _) | with_reducible refine Below.drew ?_)))⟩
      · have q1 : decide ((0 : Int) < (o.size : Int) % 4) = true := by simp; omega
        clear hr
        go_enter Try.func10, Try.ntmps10
        have d0 := Cells.new w #[.int .u8 t, .int .u16 i, .bool f, .int .u8 l, .int .u8 p, .int .u32 s, .int .u32 d, .string o] 48
        go_wp2_with fail
        (with_reducible refine (C1.out _).mono ?_)
        rintro e w1 ⟨rfl, b1⟩
        have d1 := Cells.below b1 d0
        replace b1 : Below w.heap.size w w1 := bstep (fresh_below _ _) b1
        have xd1_0 : w1.cell? ⟨w.heap.size, 0, none⟩ = some (.int .u8 t) := d1.at_ 0
        have xd1_1 : w1.cell? ⟨w.heap.size, 1, none⟩ = some (.int .u16 i) := d1.at_ 1
        have xd1_2 : w1.cell? ⟨w.heap.size, 2, none⟩ = some (.bool f) := d1.at_ 2
        have xd1_3 : w1.cell? ⟨w.heap.size, 3, none⟩ = some (.int .u8 l) := d1.at_ 3
        have xd1_4 : w1.cell? ⟨w.heap.size, 4, none⟩ = some (.int .u8 p) := d1.at_ 4
        have xd1_5 : w1.cell? ⟨w.heap.size, 5, none⟩ = some (.int .u32 s) := d1.at_ 5
        have xd1_6 : w1.cell? ⟨w.heap.size, 6, none⟩ = some (.int .u32 d) := d1.at_ 6
        have xd1_7 : w1.cell? ⟨w.heap.size, 7, none⟩ = some (.string o) := d1.at_ 7
        go_wp2_with fail
        (with_reducible refine (headed _).mono ?_)
        rintro e w5 ⟨rfl, b5⟩
        replace b5 : Below w.heap.size w w5 := by (refine bstep ?_ b5); (repeat' (first | with_reducible exact b1 | with_reducible exact Below.refl _ _ | with_reducible refine Below.setCell ?_ (by first | exact Nat.le_refl _ | (dsimp only; omega)) _ | with_reducible refine bstep ?_ (fresh_below _ _) | with_reducible refine Below.drew ?_))
        have z5 : w.heap.size ≤ w5.heap.size := b5.size
        go_wp2_with fail
        go_ret
        exact ⟨rfl, (by (repeat' (first | with_reducible exact b5 | with_reducible exact Below.refl _ _ | with_reducible refine Below.setCell ?_ (by first | exact Nat.le_refl _ | (dsimp only; omega)) _ | with_reducible refine bstep ?_ (fresh_below _ _) | with_reducible refine Below.drew ?_)))⟩
    · have q1 : decide ((0 : Int) < (o.size : Int) % 4) = true := by simp; omega
      clear hw
      go_enter Try.func10, Try.ntmps10
      have d0 := Cells.new w #[.int .u8 t, .int .u16 i, .bool f, .int .u8 l, .int .u8 p, .int .u32 s, .int .u32 d, .string o] 48
      go_wp2_with fail
      (with_reducible refine (C1.out _).mono ?_)
      rintro e w1 ⟨rfl, b1⟩
      have d1 := Cells.below b1 d0
      replace b1 : Below w.heap.size w w1 := bstep (fresh_below _ _) b1
      have xd1_0 : w1.cell? ⟨w.heap.size, 0, none⟩ = some (.int .u8 t) := d1.at_ 0
      have xd1_1 : w1.cell? ⟨w.heap.size, 1, none⟩ = some (.int .u16 i) := d1.at_ 1
      have xd1_2 : w1.cell? ⟨w.heap.size, 2, none⟩ = some (.bool f) := d1.at_ 2
      have xd1_3 : w1.cell? ⟨w.heap.size, 3, none⟩ = some (.int .u8 l) := d1.at_ 3
      have xd1_4 : w1.cell? ⟨w.heap.size, 4, none⟩ = some (.int .u8 p) := d1.at_ 4
      have xd1_5 : w1.cell? ⟨w.heap.size, 5, none⟩ = some (.int .u32 s) := d1.at_ 5
      have xd1_6 : w1.cell? ⟨w.heap.size, 6, none⟩ = some (.int .u32 d) := d1.at_ 6
      have xd1_7 : w1.cell? ⟨w.heap.size, 7, none⟩ = some (.string o) := d1.at_ 7
      go_wp2_with fail
      (with_reducible refine (headed _).mono ?_)
      rintro e w5 ⟨rfl, b5⟩
      replace b5 : Below w.heap.size w w5 := by (refine bstep ?_ b5); (repeat' (first | with_reducible exact b1 | with_reducible exact Below.refl _ _ | with_reducible refine Below.setCell ?_ (by first | exact Nat.le_refl _ | (dsimp only; omega)) _ | with_reducible refine bstep ?_ (fresh_below _ _) | with_reducible refine Below.drew ?_))
      have z5 : w.heap.size ≤ w5.heap.size := b5.size
      go_wp2_with fail
      go_ret
      exact ⟨rfl, (by (repeat' (first | with_reducible exact b5 | with_reducible exact Below.refl _ _ | with_reducible refine Below.setCell ?_ (by first | exact Nat.le_refl _ | (dsimp only; omega)) _ | with_reducible refine bstep ?_ (fresh_below _ _) | with_reducible refine Below.drew ?_)))⟩
  · rw [he, show ipText (Hd.mk t i f l p s d o) q = { data := #[] } from ipText_no (by rw [he]; decide)] at c1
    have C1 := hide c1
    simp only at g1 g2 g3
    have q1 : decide ((0 : Int) < (o.size : Int) % 4) = false := by simp; omega
    have q2 : (2048 : Int) < 20 + (o.size : Int) + (q.size : Int) := by omega
    clear c1 k0 k1 k3 k4 k5 k6 hk he g2
    go_enter Try.func10, Try.ntmps10
    have d0 := Cells.new w #[.int .u8 t, .int .u16 i, .bool f, .int .u8 l, .int .u8 p, .int .u32 s, .int .u32 d, .string o] 48
    go_wp2_with fail
    (with_reducible refine (C1.out _).mono ?_)
    rintro e w1 ⟨rfl, b1⟩
    have d1 := Cells.below b1 d0
    replace b1 : Below w.heap.size w w1 := bstep (fresh_below _ _) b1
    have xd1_0 : w1.cell? ⟨w.heap.size, 0, none⟩ = some (.int .u8 t) := d1.at_ 0
    have xd1_1 : w1.cell? ⟨w.heap.size, 1, none⟩ = some (.int .u16 i) := d1.at_ 1
    have xd1_2 : w1.cell? ⟨w.heap.size, 2, none⟩ = some (.bool f) := d1.at_ 2
    have xd1_3 : w1.cell? ⟨w.heap.size, 3, none⟩ = some (.int .u8 l) := d1.at_ 3
    have xd1_4 : w1.cell? ⟨w.heap.size, 4, none⟩ = some (.int .u8 p) := d1.at_ 4
    have xd1_5 : w1.cell? ⟨w.heap.size, 5, none⟩ = some (.int .u32 s) := d1.at_ 5
    have xd1_6 : w1.cell? ⟨w.heap.size, 6, none⟩ = some (.int .u32 d) := d1.at_ 6
    have xd1_7 : w1.cell? ⟨w.heap.size, 7, none⟩ = some (.string o) := d1.at_ 7
    go_wp2_with fail
    (with_reducible refine (headed _).mono ?_)
    rintro e w5 ⟨rfl, b5⟩
    replace b5 : Below w.heap.size w w5 := by (refine bstep ?_ b5); (repeat' (first | with_reducible exact b1 | with_reducible exact Below.refl _ _ | with_reducible refine Below.setCell ?_ (by first | exact Nat.le_refl _ | (dsimp only; omega)) _ | with_reducible refine bstep ?_ (fresh_below _ _) | with_reducible refine Below.drew ?_))
    have z5 : w.heap.size ≤ w5.heap.size := b5.size
    go_wp2_with fail
    go_ret
    exact ⟨rfl, (by (repeat' (first | with_reducible exact b5 | with_reducible exact Below.refl _ _ | with_reducible refine Below.setCell ?_ (by first | exact Nat.le_refl _ | (dsimp only; omega)) _ | with_reducible refine bstep ?_ (fresh_below _ _) | with_reducible refine Below.drew ?_)))⟩
  · simp only at g1 g2 g3
    have hbk := ip_back (Hd.mk t i f l p s d o) q b hk he
    rw [he, show ipText (Hd.mk t i f l p s d o) q = S ((Hd.mk t i f l p s d o).put q) from by unfold ipText; rw [if_pos he]] at c1
    obtain ⟨x, hx⟩ : ∃ x, x = S ((Hd.mk t i f l p s d o).put q) := ⟨_, rfl⟩
    rw [← hx] at hbk c1
    obtain ⟨e1, e2, e3, e4, e5⟩ := hbk
    simp only at e1 e2
    have c2 := fun W => i_Parse (x ++ b) W (by rw [ByteArray.size_append, e1]; omega)
    rw [show hdRes (x ++ b) = (Hd.mk t i f l p s d o) from by unfold hdRes; rw [if_pos e3, e4], show ipRest (x ++ b) = q from by unfold ipRest; rw [if_pos e3, e5], e3] at c2
    have c3 := fun (W : World) (g : Nat) (hg : g = W.heap.size) => Holds (some ⟨g, 0, none⟩) 1 1 [x.extract 0 (20 + o.size)] (W.alloc (.cells #[.string (x.extract 0 (20 + o.size))] 9)) (Row.freshAt W #[.string (x.extract 0 (20 + o.size))] 9 g _ _ hg rfl rfl) (by
      intro y hy
      simp only [List.mem_cons, List.not_mem_nil, or_false] at hy
      subst hy
      rw [ByteArray.size_extract]; omega) (by omega)
    rw [show [x.extract 0 (20 + o.size)].map L = [(L x).take (20 + o.size)] from by rw [← L_to]; rfl, e2] at c3
    simp only [Hd.cells] at c2
    have a1 : (x ++ b).size = 20 + o.size + q.size + b.size := by rw [ByteArray.size_append, e1]
    have C1 := hide c1; have C2 := hide c2; have C3 := hide c3
    have qf : (f == f) = true := by simp
    clear c1 c2 c3 k0 k1 k3 k4 k5 k6 hk he g2 e2 e3 e4 e5 hx
    go_enter Try.func10, Try.ntmps10
    have d0 := Cells.new w #[.int .u8 t, .int .u16 i, .bool f, .int .u8 l, .int .u8 p, .int .u32 s, .int .u32 d, .string o] 48
    go_wp2_with fail
    (with_reducible refine (C1.out _).mono ?_)
    rintro e w1 ⟨rfl, b1⟩
    have d1 := Cells.below b1 d0
    replace b1 : Below w.heap.size w w1 := bstep (fresh_below _ _) b1
    have xd1_0 : w1.cell? ⟨w.heap.size, 0, none⟩ = some (.int .u8 t) := d1.at_ 0
    have xd1_1 : w1.cell? ⟨w.heap.size, 1, none⟩ = some (.int .u16 i) := d1.at_ 1
    have xd1_2 : w1.cell? ⟨w.heap.size, 2, none⟩ = some (.bool f) := d1.at_ 2
    have xd1_3 : w1.cell? ⟨w.heap.size, 3, none⟩ = some (.int .u8 l) := d1.at_ 3
    have xd1_4 : w1.cell? ⟨w.heap.size, 4, none⟩ = some (.int .u8 p) := d1.at_ 4
    have xd1_5 : w1.cell? ⟨w.heap.size, 5, none⟩ = some (.int .u32 s) := d1.at_ 5
    have xd1_6 : w1.cell? ⟨w.heap.size, 6, none⟩ = some (.int .u32 d) := d1.at_ 6
    have xd1_7 : w1.cell? ⟨w.heap.size, 7, none⟩ = some (.string o) := d1.at_ 7
    go_wp2_with fail
    (with_reducible refine (C2.out _).mono ?_)
    rintro e w2 ⟨rfl, b2⟩
    have d2 := Cells.below b2 d1
    replace b2 : Below w.heap.size w w2 := bstep b1 b2
    have d3 := Cells.alloc d2 (.cells #[.int .u8 t, .int .u16 i, .bool f, .int .u8 l, .int .u8 p, .int .u32 s, .int .u32 d, .string o] 48)
    have e3 := Cells.new w2 #[.int .u8 t, .int .u16 i, .bool f, .int .u8 l, .int .u8 p, .int .u32 s, .int .u32 d, .string o] 48
    have xd3_0 : (w2.alloc (.cells #[.int .u8 t, .int .u16 i, .bool f, .int .u8 l, .int .u8 p, .int .u32 s, .int .u32 d, .string o] 48)).cell? ⟨w.heap.size, 0, none⟩ = some (.int .u8 t) := d3.at_ 0
    have xd3_1 : (w2.alloc (.cells #[.int .u8 t, .int .u16 i, .bool f, .int .u8 l, .int .u8 p, .int .u32 s, .int .u32 d, .string o] 48)).cell? ⟨w.heap.size, 1, none⟩ = some (.int .u16 i) := d3.at_ 1
    have xd3_2 : (w2.alloc (.cells #[.int .u8 t, .int .u16 i, .bool f, .int .u8 l, .int .u8 p, .int .u32 s, .int .u32 d, .string o] 48)).cell? ⟨w.heap.size, 2, none⟩ = some (.bool f) := d3.at_ 2
    have xd3_3 : (w2.alloc (.cells #[.int .u8 t, .int .u16 i, .bool f, .int .u8 l, .int .u8 p, .int .u32 s, .int .u32 d, .string o] 48)).cell? ⟨w.heap.size, 3, none⟩ = some (.int .u8 l) := d3.at_ 3
    have xd3_4 : (w2.alloc (.cells #[.int .u8 t, .int .u16 i, .bool f, .int .u8 l, .int .u8 p, .int .u32 s, .int .u32 d, .string o] 48)).cell? ⟨w.heap.size, 4, none⟩ = some (.int .u8 p) := d3.at_ 4
    have xd3_5 : (w2.alloc (.cells #[.int .u8 t, .int .u16 i, .bool f, .int .u8 l, .int .u8 p, .int .u32 s, .int .u32 d, .string o] 48)).cell? ⟨w.heap.size, 5, none⟩ = some (.int .u32 s) := d3.at_ 5
    have xd3_6 : (w2.alloc (.cells #[.int .u8 t, .int .u16 i, .bool f, .int .u8 l, .int .u8 p, .int .u32 s, .int .u32 d, .string o] 48)).cell? ⟨w.heap.size, 6, none⟩ = some (.int .u32 d) := d3.at_ 6
    have xd3_7 : (w2.alloc (.cells #[.int .u8 t, .int .u16 i, .bool f, .int .u8 l, .int .u8 p, .int .u32 s, .int .u32 d, .string o] 48)).cell? ⟨w.heap.size, 7, none⟩ = some (.string o) := d3.at_ 7
    go_wp2_with fail
    (with_reducible refine (C3.out _ _ (by simp)).mono ?_)
    rintro e w4 ⟨rfl, b4⟩
    have d4 := Cells.up d3 (fresh_below _ _) b4
    have e4 := Cells.up e3 (fresh_below _ _) b4
    replace b4 : Below w.heap.size w w4 := bstep (bstep (bstep b2 (fresh_below _ _)) (fresh_below _ _)) b4
    have xd4_0 : w4.cell? ⟨w.heap.size, 0, none⟩ = some (.int .u8 t) := d4.at_ 0
    have xd4_1 : w4.cell? ⟨w.heap.size, 1, none⟩ = some (.int .u16 i) := d4.at_ 1
    have xd4_2 : w4.cell? ⟨w.heap.size, 2, none⟩ = some (.bool f) := d4.at_ 2
    have xd4_3 : w4.cell? ⟨w.heap.size, 3, none⟩ = some (.int .u8 l) := d4.at_ 3
    have xd4_4 : w4.cell? ⟨w.heap.size, 4, none⟩ = some (.int .u8 p) := d4.at_ 4
    have xd4_5 : w4.cell? ⟨w.heap.size, 5, none⟩ = some (.int .u32 s) := d4.at_ 5
    have xd4_6 : w4.cell? ⟨w.heap.size, 6, none⟩ = some (.int .u32 d) := d4.at_ 6
    have xd4_7 : w4.cell? ⟨w.heap.size, 7, none⟩ = some (.string o) := d4.at_ 7
    have xe4_0 : w4.cell? ⟨w2.heap.size, 0, none⟩ = some (.int .u8 t) := e4.at_ 0
    have xe4_1 : w4.cell? ⟨w2.heap.size, 1, none⟩ = some (.int .u16 i) := e4.at_ 1
    have xe4_2 : w4.cell? ⟨w2.heap.size, 2, none⟩ = some (.bool f) := e4.at_ 2
    have xe4_3 : w4.cell? ⟨w2.heap.size, 3, none⟩ = some (.int .u8 l) := e4.at_ 3
    have xe4_4 : w4.cell? ⟨w2.heap.size, 4, none⟩ = some (.int .u8 p) := e4.at_ 4
    have xe4_5 : w4.cell? ⟨w2.heap.size, 5, none⟩ = some (.int .u32 s) := e4.at_ 5
    have xe4_6 : w4.cell? ⟨w2.heap.size, 6, none⟩ = some (.int .u32 d) := e4.at_ 6
    have xe4_7 : w4.cell? ⟨w2.heap.size, 7, none⟩ = some (.string o) := e4.at_ 7
    go_wp2_with fail
    (with_reducible refine (headed _).mono ?_)
    rintro e w5 ⟨rfl, b5⟩
    replace b5 : Below w.heap.size w w5 := by (refine bstep ?_ b5); (repeat' (first | with_reducible exact b4 | with_reducible exact Below.refl _ _ | with_reducible refine Below.setCell ?_ (by first | exact Nat.le_refl _ | (dsimp only; omega)) _ | with_reducible refine bstep ?_ (fresh_below _ _) | with_reducible refine Below.drew ?_))
    have z5 : w.heap.size ≤ w5.heap.size := b5.size
    go_wp2_with fail
    go_ret
    exact ⟨rfl, (by (repeat' (first | with_reducible exact b5 | with_reducible exact Below.refl _ _ | with_reducible refine Below.setCell ?_ (by first | exact Nat.le_refl _ | (dsimp only; omega)) _ | with_reducible refine bstep ?_ (fresh_below _ _) | with_reducible refine Below.drew ?_)))⟩
end Go.Proofs.Ytlmpoikjjidgiaa
