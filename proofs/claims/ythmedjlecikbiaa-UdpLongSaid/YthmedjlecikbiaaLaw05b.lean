/- UdpBack walked: it returns true and leaves what lay there as it lay. -/
import Derived.Test.YthmedjlecikbiaaLaw05
import Derived.Test.YthmedjlecikbiaaStr
set_option linter.unusedVariables false
namespace Go.Proofs.Ythmedjlecikbiaa
open Go.RowKit
attribute [local go_sem] Oper.semAt_some

theorem udpIs_no {s : ByteArray} (h : s.size < 8 ∨ get16 (L s) 4 ≠ s.size) : udpIs s = false := by
  unfold udpIs; simp; omega
theorem udpIs_yes {s : ByteArray} (h8 : 8 ≤ s.size) (h : get16 (L s) 4 = s.size) : udpIs s = true := by
  unfold udpIs; simp; omega
/-- what stands in a datagram that was put -/
theorem udpWords_at (a b n d : Int) (r : List UInt8) (ha : 0 ≤ a ∧ a ≤ 65535) (hb : 0 ≤ b ∧ b ≤ 65535) (hn : 0 ≤ n ∧ n ≤ 65535) (hd : 0 ≤ d ∧ d ≤ 65535) :
    be16 (udpWords a b n d ++ r) 0 = a ∧ be16 (udpWords a b n d ++ r) 2 = b ∧ be16 (udpWords a b n d ++ r) 4 = n ∧ be16 (udpWords a b n d ++ r) 6 = d := by
  have hl : ∀ x ∈ [a, b, n, d], 0 ≤ x ∧ x ≤ 65535 := by
    intro x hx
    simp only [List.mem_cons, List.not_mem_nil, or_false] at hx
    rcases hx with rfl | rfl | rfl | rfl <;> omega
  exact ⟨be16_putW hl r (k := 0) (by simp), be16_putW hl r (k := 1) (by simp), be16_putW hl r (k := 2) (by simp), be16_putW hl r (k := 3) (by simp)⟩

set_option maxHeartbeats 2000000 in
theorem UdpBack_walk (a b c d : Int) (p r : ByteArray) (w : World) (ha : 0 ≤ a ∧ a ≤ 65535) (hb : 0 ≤ b ∧ b ≤ 65535) (hc : 0 ≤ c ∧ c ≤ 65535) (hd : 0 ≤ d ∧ d ≤ 65535) (hp : p.size ≤ 140737488351232) (hr : r.size ≤ 140737488351232) :
    Calls Try.prog 5 #[.agg #[.int .u16 a, .int .u16 b, .int .u16 c, .int .u16 d], .string p, .string r] w (Ret (.bool true) w) := by
  by_cases g1 : 600 < p.size
  · go_enter Try.func5, Try.ntmps5
    go_wp2_with fail
    (with_reducible refine (sent _).mono ?_)
    rintro e w1 ⟨rfl, b1⟩
    replace b1 : Below w.heap.size w w1 := by (refine bstep ?_ b1); (repeat' (first | exact Below.refl _ _ | with_reducible refine bstep ?_ (fresh_below _ _) | with_reducible refine Below.drew ?_ | with_reducible refine Below.setCell ?_ (by first | exact Nat.le_refl _ | assumption | omega) _))
    have z1 : w.heap.size ≤ w1.heap.size := b1.size
    go_wp2_with fail
    go_ret
    exact ⟨rfl, (by (repeat' (first | exact b1 | exact Below.refl _ _ | with_reducible refine bstep ?_ (fresh_below _ _) | with_reducible refine Below.drew ?_ | with_reducible refine Below.setCell ?_ (by first | exact Nat.le_refl _ | assumption | omega) _)))⟩
  by_cases g2 : 100 < r.size
  · go_enter Try.func5, Try.ntmps5
    go_wp2_with fail
    (with_reducible refine (sent _).mono ?_)
    rintro e w1 ⟨rfl, b1⟩
    replace b1 : Below w.heap.size w w1 := by (refine bstep ?_ b1); (repeat' (first | exact Below.refl _ _ | with_reducible refine bstep ?_ (fresh_below _ _) | with_reducible refine Below.drew ?_ | with_reducible refine Below.setCell ?_ (by first | exact Nat.le_refl _ | assumption | omega) _))
    have z1 : w.heap.size ≤ w1.heap.size := b1.size
    go_wp2_with fail
    go_ret
    exact ⟨rfl, (by (repeat' (first | exact b1 | exact Below.refl _ _ | with_reducible refine bstep ?_ (fresh_below _ _) | with_reducible refine Below.drew ?_ | with_reducible refine Below.setCell ?_ (by first | exact Nat.le_refl _ | assumption | omega) _)))⟩
  have hn : ((8 : Int) + p.size) % 65536 = 8 + p.size := by omega
  have c1 := fun w => udp_Put a b c d p w ha hb hd hp
  rw [hn] at c1
  obtain ⟨t, ht⟩ : ∃ t, t = S (udpWords a b (8 + p.size) d ++ L p) := ⟨_, rfl⟩
  rw [← ht] at c1
  have hz : t.size = 8 + p.size := by rw [ht, S_size, List.length_append, L_length]; rfl
  have hLt : L t = udpWords a b (8 + p.size) d ++ L p := by rw [ht, L_S]
  obtain ⟨e0, e2, e4, e6⟩ := udpWords_at a b (8 + p.size) d (L p) ha hb (by omega) hd
  have hlen : (L t).length = 8 + p.size := by rw [L_length, hz]
  have k0 : get16 (L t) 0 = a := by rw [show (0 : Int) = ((0 : Nat) : Int) from rfl, get16_nat (by omega), hLt, e0]
  have k2 : get16 (L t) 2 = b := by rw [show (2 : Int) = ((2 : Nat) : Int) from rfl, get16_nat (by omega), hLt, e2]
  have k4 : get16 (L t) 4 = 8 + p.size := by rw [show (4 : Int) = ((4 : Nat) : Int) from rfl, get16_nat (by omega), hLt, e4]
  have k6 : get16 (L t) 6 = d := by rw [show (6 : Int) = ((6 : Nat) : Int) from rfl, get16_nat (by omega), hLt, e6]
  have hrest : S ((L t).drop 8) = p := by rw [hLt]; exact S_L p
  have c2 := fun w => udp_Parse_yes t w (by unfold maxLen; omega) (udpIs_yes (by omega) (by rw [k4, hz]; omega))
  unfold udpHead at c2
  rw [k0, k2, k4, k6, hrest] at c2
  have zr : (t ++ r).size = 8 + p.size + r.size := by rw [ByteArray.size_append, hz]
  have k4r : get16 (L (t ++ r)) 4 = 8 + p.size := by
    rw [show (4 : Int) = ((4 : Nat) : Int) from rfl, get16_nat (by rw [L_length]; omega), L_append, be16_left (by omega), ← get16_nat (by omega)]; exact k4
  have zx : (t.extract 0 (7 + p.size)).size = 7 + p.size := by rw [ByteArray.size_extract]; omega
  have k4x : 8 ≤ (t.extract 0 (7 + p.size)).size → get16 (L (t.extract 0 (7 + p.size))) 4 = 8 + p.size := by
    intro h
    rw [show (4 : Int) = ((4 : Nat) : Int) from rfl, get16_nat (by rw [L_length]; omega), L_to, be16_take (by omega), ← get16_nat (by omega)]; exact k4
  have c4 := fun w => udp_Parse_no (t.extract 0 (7 + p.size)) w (by unfold maxLen; omega) (udpIs_no (by
    by_cases h : 8 ≤ (t.extract 0 (7 + p.size)).size
    · right; rw [k4x h]; omega
    · left; omega))
  unfold udpNone at c4
  obtain ⟨a0, a1⟩ := ha
  obtain ⟨b0, b1⟩ := hb
  obtain ⟨d0, d1⟩ := hd
  by_cases h0 : r.size = 0
  · have hr0 : r = ByteArray.empty := by
      apply ByteArray.ext; apply Array.eq_empty_of_size_eq_zero; exact h0
    subst hr0
    have c3 := fun w => udp_Parse_yes (t ++ ByteArray.empty) w (by unfold maxLen; omega) (udpIs_yes (by omega) (by rw [k4r, zr, h0]; omega))
    rw [show t ++ ByteArray.empty = t from by apply L_inj; rw [L_append]; simp [L]] at c3
    unfold udpHead at c3
    rw [k0, k2, k4, k6, hrest] at c3
    have C1 := hide c1; have C2 := hide c2; have C3 := hide c3; have C4 := hide c4; have HZ := hide hz
    clear c1 c2 c3 c4 ht hLt e0 e2 e4 e6 hlen k0 k2 k4 k6 hrest zr k4r zx k4x hn h0
    go_enter Try.func5, Try.ntmps5
    have d0 := Cells.new w #[.int .u16 a, .int .u16 b, .int .u16 c, .int .u16 d] 24
    go_wp2_with fail
    (with_reducible refine (C1.out _).mono ?_)
    rintro e w1 ⟨rfl, b1⟩
    replace d0 := Cells.below b1 d0
    replace b1 : Below w.heap.size w w1 := by (refine bstep ?_ b1); (repeat' (first | exact Below.refl _ _ | with_reducible refine bstep ?_ (fresh_below _ _) | with_reducible refine Below.drew ?_ | with_reducible refine Below.setCell ?_ (by first | exact Nat.le_refl _ | assumption | omega) _))
    have z1 : w.heap.size ≤ w1.heap.size := b1.size
    go_wp2_with fail
    (with_reducible refine (C2.out _).mono ?_)
    rintro e w2 ⟨rfl, b2⟩
    replace d0 := Cells.below b2 d0
    replace b2 : Below w.heap.size w w2 := by (refine bstep ?_ b2); (repeat' (first | exact b1 | exact Below.refl _ _ | with_reducible refine bstep ?_ (fresh_below _ _) | with_reducible refine Below.drew ?_ | with_reducible refine Below.setCell ?_ (by first | exact Nat.le_refl _ | assumption | omega) _))
    have z2 : w.heap.size ≤ w2.heap.size := b2.size
    have d0x := d0
    replace d0 := Cells.below (fresh_below w2 (.cells #[.int .u16 a, .int .u16 b, .int .u16 (8 + p.size), .int .u16 d] 24)) d0
    have d1 := Cells.new w2 #[.int .u16 a, .int .u16 b, .int .u16 (8 + p.size), .int .u16 d] 24
    have bb : Below w.heap.size w (w2.alloc (.cells #[.int .u16 a, .int .u16 b, .int .u16 (8 + p.size), .int .u16 d] 24)) := (by (repeat' (first | exact b2 | exact Below.refl _ _ | with_reducible refine bstep ?_ (fresh_below _ _) | with_reducible refine Below.drew ?_ | with_reducible refine Below.setCell ?_ (by first | exact Nat.le_refl _ | assumption | omega) _)))
    have n1 : w.heap.size ≠ w2.heap.size := Cells.ne d0x
    have n2 : w2.heap.size ≠ w.heap.size := Ne.symm n1
    have xd0_0 : (w2.alloc (.cells #[.int .u16 a, .int .u16 b, .int .u16 (8 + p.size), .int .u16 d] 24)).cell? ⟨w.heap.size, 0, none⟩ = some (.int .u16 a) := d0.at_ 0
    have xd0_1 : (w2.alloc (.cells #[.int .u16 a, .int .u16 b, .int .u16 (8 + p.size), .int .u16 d] 24)).cell? ⟨w.heap.size, 1, none⟩ = some (.int .u16 b) := d0.at_ 1
    have xd0_2 : (w2.alloc (.cells #[.int .u16 a, .int .u16 b, .int .u16 (8 + p.size), .int .u16 d] 24)).cell? ⟨w.heap.size, 2, none⟩ = some (.int .u16 c) := d0.at_ 2
    have xd0_3 : (w2.alloc (.cells #[.int .u16 a, .int .u16 b, .int .u16 (8 + p.size), .int .u16 d] 24)).cell? ⟨w.heap.size, 3, none⟩ = some (.int .u16 d) := d0.at_ 3
    have yd0_0 : (w2.alloc (.cells #[.int .u16 a, .int .u16 b, .int .u16 (8 + p.size), .int .u16 d] 24)).frozen? ⟨w.heap.size, 0, none⟩ = false := d0.free 0
    have yd0_1 : (w2.alloc (.cells #[.int .u16 a, .int .u16 b, .int .u16 (8 + p.size), .int .u16 d] 24)).frozen? ⟨w.heap.size, 1, none⟩ = false := d0.free 1
    have yd0_2 : (w2.alloc (.cells #[.int .u16 a, .int .u16 b, .int .u16 (8 + p.size), .int .u16 d] 24)).frozen? ⟨w.heap.size, 2, none⟩ = false := d0.free 2
    have yd0_3 : (w2.alloc (.cells #[.int .u16 a, .int .u16 b, .int .u16 (8 + p.size), .int .u16 d] 24)).frozen? ⟨w.heap.size, 3, none⟩ = false := d0.free 3
    have xd1_0 : (w2.alloc (.cells #[.int .u16 a, .int .u16 b, .int .u16 (8 + p.size), .int .u16 d] 24)).cell? ⟨w2.heap.size, 0, none⟩ = some (.int .u16 a) := d1.at_ 0
    have xd1_1 : (w2.alloc (.cells #[.int .u16 a, .int .u16 b, .int .u16 (8 + p.size), .int .u16 d] 24)).cell? ⟨w2.heap.size, 1, none⟩ = some (.int .u16 b) := d1.at_ 1
    have xd1_2 : (w2.alloc (.cells #[.int .u16 a, .int .u16 b, .int .u16 (8 + p.size), .int .u16 d] 24)).cell? ⟨w2.heap.size, 2, none⟩ = some (.int .u16 (8 + p.size)) := d1.at_ 2
    have xd1_3 : (w2.alloc (.cells #[.int .u16 a, .int .u16 b, .int .u16 (8 + p.size), .int .u16 d] 24)).cell? ⟨w2.heap.size, 3, none⟩ = some (.int .u16 d) := d1.at_ 3
    have xd0x_0 : w2.cell? ⟨w.heap.size, 0, none⟩ = some (.int .u16 a) := d0x.at_ 0
    have xd0x_1 : w2.cell? ⟨w.heap.size, 1, none⟩ = some (.int .u16 b) := d0x.at_ 1
    have xd0x_2 : w2.cell? ⟨w.heap.size, 2, none⟩ = some (.int .u16 c) := d0x.at_ 2
    have xd0x_3 : w2.cell? ⟨w.heap.size, 3, none⟩ = some (.int .u16 d) := d0x.at_ 3
    have yd0x_0 : w2.frozen? ⟨w.heap.size, 0, none⟩ = false := d0x.free 0
    have yd0x_1 : w2.frozen? ⟨w.heap.size, 1, none⟩ = false := d0x.free 1
    have yd0x_2 : w2.frozen? ⟨w.heap.size, 2, none⟩ = false := d0x.free 2
    have yd0x_3 : w2.frozen? ⟨w.heap.size, 3, none⟩ = false := d0x.free 3
    go_wp2_with fail
    (with_reducible refine (C3.out _).mono ?_)
    rintro e w3 ⟨rfl, b3⟩
    replace b3 : Below w.heap.size w w3 := by (refine bstep ?_ b3); (repeat' (first | exact b2 | exact Below.refl _ _ | with_reducible refine bstep ?_ (fresh_below _ _) | with_reducible refine Below.drew ?_ | with_reducible refine Below.setCell ?_ (by first | exact Nat.le_refl _ | assumption | omega) _))
    have z3 : w.heap.size ≤ w3.heap.size := b3.size
    go_wp2_with fail
    (with_reducible refine (C4.out _).mono ?_)
    rintro e w4 ⟨rfl, b4⟩
    replace b4 : Below w.heap.size w w4 := by (refine bstep ?_ b4); (repeat' (first | exact b3 | exact Below.refl _ _ | with_reducible refine bstep ?_ (fresh_below _ _) | with_reducible refine Below.drew ?_ | with_reducible refine Below.setCell ?_ (by first | exact Nat.le_refl _ | assumption | omega) _))
    have z4 : w.heap.size ≤ w4.heap.size := b4.size
    go_wp2_with fail
    (with_reducible refine (sent _).mono ?_)
    rintro e w5 ⟨rfl, b5⟩
    replace b5 : Below w.heap.size w w5 := by (refine bstep ?_ b5); (repeat' (first | exact b4 | exact Below.refl _ _ | with_reducible refine bstep ?_ (fresh_below _ _) | with_reducible refine Below.drew ?_ | with_reducible refine Below.setCell ?_ (by first | exact Nat.le_refl _ | assumption | omega) _))
    have z5 : w.heap.size ≤ w5.heap.size := b5.size
    go_wp2_with fail
    go_ret
    exact ⟨rfl, (by (repeat' (first | exact b5 | exact Below.refl _ _ | with_reducible refine bstep ?_ (fresh_below _ _) | with_reducible refine Below.drew ?_ | with_reducible refine Below.setCell ?_ (by first | exact Nat.le_refl _ | assumption | omega) _)))⟩
  · have c3 := fun w => udp_Parse_no (t ++ r) w (by unfold maxLen; omega) (udpIs_no (by right; rw [k4r, zr]; omega))
    unfold udpNone at c3
    have C1 := hide c1; have C2 := hide c2; have C3 := hide c3; have C4 := hide c4; have HZ := hide hz
    have q2 := str_full h0
    clear c1 c2 c3 c4 ht hLt e0 e2 e4 e6 hlen k0 k2 k4 k6 hrest zr k4r zx k4x hn
    go_enter Try.func5, Try.ntmps5
    have d0 := Cells.new w #[.int .u16 a, .int .u16 b, .int .u16 c, .int .u16 d] 24
    go_wp2_with fail
    (with_reducible refine (C1.out _).mono ?_)
    rintro e w1 ⟨rfl, b1⟩
    replace d0 := Cells.below b1 d0
    replace b1 : Below w.heap.size w w1 := by (refine bstep ?_ b1); (repeat' (first | exact Below.refl _ _ | with_reducible refine bstep ?_ (fresh_below _ _) | with_reducible refine Below.drew ?_ | with_reducible refine Below.setCell ?_ (by first | exact Nat.le_refl _ | assumption | omega) _))
    have z1 : w.heap.size ≤ w1.heap.size := b1.size
    go_wp2_with fail
    (with_reducible refine (C2.out _).mono ?_)
    rintro e w2 ⟨rfl, b2⟩
    replace d0 := Cells.below b2 d0
    replace b2 : Below w.heap.size w w2 := by (refine bstep ?_ b2); (repeat' (first | exact b1 | exact Below.refl _ _ | with_reducible refine bstep ?_ (fresh_below _ _) | with_reducible refine Below.drew ?_ | with_reducible refine Below.setCell ?_ (by first | exact Nat.le_refl _ | assumption | omega) _))
    have z2 : w.heap.size ≤ w2.heap.size := b2.size
    have d0x := d0
    replace d0 := Cells.below (fresh_below w2 (.cells #[.int .u16 a, .int .u16 b, .int .u16 (8 + p.size), .int .u16 d] 24)) d0
    have d1 := Cells.new w2 #[.int .u16 a, .int .u16 b, .int .u16 (8 + p.size), .int .u16 d] 24
    have n1 : w.heap.size ≠ w2.heap.size := Cells.ne d0x
    have n2 : w2.heap.size ≠ w.heap.size := Ne.symm n1
    have xd0_0 : (w2.alloc (.cells #[.int .u16 a, .int .u16 b, .int .u16 (8 + p.size), .int .u16 d] 24)).cell? ⟨w.heap.size, 0, none⟩ = some (.int .u16 a) := d0.at_ 0
    have xd0_1 : (w2.alloc (.cells #[.int .u16 a, .int .u16 b, .int .u16 (8 + p.size), .int .u16 d] 24)).cell? ⟨w.heap.size, 1, none⟩ = some (.int .u16 b) := d0.at_ 1
    have xd0_2 : (w2.alloc (.cells #[.int .u16 a, .int .u16 b, .int .u16 (8 + p.size), .int .u16 d] 24)).cell? ⟨w.heap.size, 2, none⟩ = some (.int .u16 c) := d0.at_ 2
    have xd0_3 : (w2.alloc (.cells #[.int .u16 a, .int .u16 b, .int .u16 (8 + p.size), .int .u16 d] 24)).cell? ⟨w.heap.size, 3, none⟩ = some (.int .u16 d) := d0.at_ 3
    have yd0_0 : (w2.alloc (.cells #[.int .u16 a, .int .u16 b, .int .u16 (8 + p.size), .int .u16 d] 24)).frozen? ⟨w.heap.size, 0, none⟩ = false := d0.free 0
    have yd0_1 : (w2.alloc (.cells #[.int .u16 a, .int .u16 b, .int .u16 (8 + p.size), .int .u16 d] 24)).frozen? ⟨w.heap.size, 1, none⟩ = false := d0.free 1
    have yd0_2 : (w2.alloc (.cells #[.int .u16 a, .int .u16 b, .int .u16 (8 + p.size), .int .u16 d] 24)).frozen? ⟨w.heap.size, 2, none⟩ = false := d0.free 2
    have yd0_3 : (w2.alloc (.cells #[.int .u16 a, .int .u16 b, .int .u16 (8 + p.size), .int .u16 d] 24)).frozen? ⟨w.heap.size, 3, none⟩ = false := d0.free 3
    have xd1_0 : (w2.alloc (.cells #[.int .u16 a, .int .u16 b, .int .u16 (8 + p.size), .int .u16 d] 24)).cell? ⟨w2.heap.size, 0, none⟩ = some (.int .u16 a) := d1.at_ 0
    have xd1_1 : (w2.alloc (.cells #[.int .u16 a, .int .u16 b, .int .u16 (8 + p.size), .int .u16 d] 24)).cell? ⟨w2.heap.size, 1, none⟩ = some (.int .u16 b) := d1.at_ 1
    have xd1_2 : (w2.alloc (.cells #[.int .u16 a, .int .u16 b, .int .u16 (8 + p.size), .int .u16 d] 24)).cell? ⟨w2.heap.size, 2, none⟩ = some (.int .u16 (8 + p.size)) := d1.at_ 2
    have xd1_3 : (w2.alloc (.cells #[.int .u16 a, .int .u16 b, .int .u16 (8 + p.size), .int .u16 d] 24)).cell? ⟨w2.heap.size, 3, none⟩ = some (.int .u16 d) := d1.at_ 3
    have xd0x_0 : w2.cell? ⟨w.heap.size, 0, none⟩ = some (.int .u16 a) := d0x.at_ 0
    have xd0x_1 : w2.cell? ⟨w.heap.size, 1, none⟩ = some (.int .u16 b) := d0x.at_ 1
    have xd0x_2 : w2.cell? ⟨w.heap.size, 2, none⟩ = some (.int .u16 c) := d0x.at_ 2
    have xd0x_3 : w2.cell? ⟨w.heap.size, 3, none⟩ = some (.int .u16 d) := d0x.at_ 3
    have yd0x_0 : w2.frozen? ⟨w.heap.size, 0, none⟩ = false := d0x.free 0
    have yd0x_1 : w2.frozen? ⟨w.heap.size, 1, none⟩ = false := d0x.free 1
    have yd0x_2 : w2.frozen? ⟨w.heap.size, 2, none⟩ = false := d0x.free 2
    have yd0x_3 : w2.frozen? ⟨w.heap.size, 3, none⟩ = false := d0x.free 3
    go_wp2_with fail
    (with_reducible refine (C3.out _).mono ?_)
    rintro e w3 ⟨rfl, b3⟩
    replace b3 : Below w.heap.size w w3 := by (refine bstep ?_ b3); (repeat' (first | exact b2 | exact Below.refl _ _ | with_reducible refine bstep ?_ (fresh_below _ _) | with_reducible refine Below.drew ?_ | with_reducible refine Below.setCell ?_ (by first | exact Nat.le_refl _ | assumption | omega) _))
    have z3 : w.heap.size ≤ w3.heap.size := b3.size
    go_wp2_with fail
    (with_reducible refine (C4.out _).mono ?_)
    rintro e w4 ⟨rfl, b4⟩
    replace b4 : Below w.heap.size w w4 := by (refine bstep ?_ b4); (repeat' (first | exact b3 | exact Below.refl _ _ | with_reducible refine bstep ?_ (fresh_below _ _) | with_reducible refine Below.drew ?_ | with_reducible refine Below.setCell ?_ (by first | exact Nat.le_refl _ | assumption | omega) _))
    have z4 : w.heap.size ≤ w4.heap.size := b4.size
    go_wp2_with fail
    (with_reducible refine (sent _).mono ?_)
    rintro e w5 ⟨rfl, b5⟩
    replace b5 : Below w.heap.size w w5 := by (refine bstep ?_ b5); (repeat' (first | exact b4 | exact Below.refl _ _ | with_reducible refine bstep ?_ (fresh_below _ _) | with_reducible refine Below.drew ?_ | with_reducible refine Below.setCell ?_ (by first | exact Nat.le_refl _ | assumption | omega) _))
    have z5 : w.heap.size ≤ w5.heap.size := b5.size
    go_wp2_with fail
    go_ret
    exact ⟨rfl, (by (repeat' (first | exact b5 | exact Below.refl _ _ | with_reducible refine bstep ?_ (fresh_below _ _) | with_reducible refine Below.drew ?_ | with_reducible refine Below.setCell ?_ (by first | exact Nat.le_refl _ | assumption | omega) _)))⟩
end Go.Proofs.Ythmedjlecikbiaa
