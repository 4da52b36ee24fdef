/- HashesUnlike over this program. -/
import Derived.Test.YtcghhnehmddoeaaPut
set_option linter.unusedVariables false
namespace Go.Proofs.Ytcghhnehmddoeaa
open Go.RowKit
attribute [local go_sem] Oper.semAt_some

set_option maxHeartbeats 1000000 in
theorem HashesUnlike_core (t : Tup) (ht : t.Ok) (a b : Int) (w : World) (ha : 0 ≤ a ∧ a ≤ 255) (hb : 0 ≤ b ∧ b ≤ 255) :
    Calls Try.prog 9 #[.agg t.cells, .int .u8 a, .int .u8 b] w (Ret (.bool true) w) := by
  obtain ⟨c, hc⟩ : ∃ c : Nat, a % 13 = c := ⟨(a % 13).toNat, by omega⟩
  have hc13 : c < 13 := by omega
  have c1 := fun w => with_any t ht a b ha hb c hc hc13 w
  obtain ⟨hiff, hu⟩ := num_put t ht b hb c hc13
  obtain ⟨u, hue⟩ : ∃ u, u = t.put b c := ⟨_, rfl⟩
  rw [← hue] at c1 hiff hu
  clear hue hc hc13 c
  have c2 := fun w => Of t ht 4294967296 w (by omega)
  have c3 := fun w => Of u hu 4294967296 w (by omega)
  rw [of_whole] at c2 c3
  obtain ⟨x, hx⟩ : ∃ x, x = t.num := ⟨_, rfl⟩
  obtain ⟨y, hy⟩ : ∃ y, y = u.num := ⟨_, rfl⟩
  rw [← hx] at c2 hiff
  rw [← hy] at c3 hiff
  have hd0 : At5 (w.alloc (.cells t.cells 56)) w.heap.size t := At5.new (heap_alloc_new w _)
  have b0 := fresh_below w (.cells t.cells 56)
  unfold Tup.cells at c1 c2 c3 hd0 b0 ⊢
  have C1 := hide c1; have C2 := hide c2; have C3 := hide c3
  clear c1 c2 c3 hx hy hu ht
  have hcase : (x = y ∧ b = 0) ∨ (x ≠ y ∧ b ≠ 0) := by
    by_cases h : b = 0
    · exact .inl ⟨hiff.2 h, h⟩
    · exact .inr ⟨fun e => h (hiff.1 e), h⟩
  clear hiff
  rcases hcase with ⟨h1, h2⟩ | ⟨h1, h2⟩
  · subst h1
    subst h2
    go_enter Try.func9, Try.ntmps9
    go_wp2_with fail
    refine (C1.out _).mono ?_
    rintro e w1 ⟨rfl, b1⟩
    have hd1 := At5.below b1 hd0
    replace b1 := bstep b0 b1
    go_wp2_with fail
    have d1 := At5.below (fresh_below w1 (.cells u.cells 56)) hd1
    have f1 : At5 (w1.alloc (.cells u.cells 56)) w1.heap.size u := At5.new (heap_alloc_new w1 _)
    have bb := bstep b1 (fresh_below w1 (.cells u.cells 56))
    unfold Tup.cells at d1 f1 bb
    generalize w1.alloc (.cells #[.int .u8 u.p, .int .u32 u.si, .int .u16 u.sp, .int .u32 u.di, .int .u16 u.dp] 56) = W1 at *
    have x1 := d1
    have y1 := f1
    simp only [At5] at x1 y1
    go_region_held3 (fun w' => w'.cell? ⟨w.heap.size, 0, none⟩ = some (.int .u8 t.p) ∧ w'.cell? ⟨w.heap.size, 1, none⟩ = some (.int .u32 t.si) ∧ w'.cell? ⟨w.heap.size, 2, none⟩ = some (.int .u16 t.sp) ∧ w'.cell? ⟨w.heap.size, 3, none⟩ = some (.int .u32 t.di) ∧ w'.cell? ⟨w.heap.size, 4, none⟩ = some (.int .u16 t.dp) ∧ w'.cell? ⟨w1.heap.size, 0, none⟩ = some (.int .u8 u.p) ∧ w'.cell? ⟨w1.heap.size, 1, none⟩ = some (.int .u32 u.si) ∧ w'.cell? ⟨w1.heap.size, 2, none⟩ = some (.int .u16 u.sp) ∧ w'.cell? ⟨w1.heap.size, 3, none⟩ = some (.int .u32 u.di) ∧ w'.cell? ⟨w1.heap.size, 4, none⟩ = some (.int .u16 u.dp)) (simp [*])
      (first | (go_at_call 40; (with_reducible refine (C2.out _).mono ?_); clear C2; rintro e w2 ⟨rfl, b2⟩; have d2 := At5.below b2 d1; have f2 := At5.below b2 f1; have x2 := d2; have y2 := f2; simp only [At5] at x2 y2) | (go_at_call 40; (with_reducible refine (C3.out _).mono ?_); clear C3; rintro e w3 ⟨rfl, b3⟩; have d3 := At5.below b3 d2; have f3 := At5.below b3 f2; have x3 := d3; have y3 := f3; simp only [At5] at x3 y3) | (go_at_call 41; (with_reducible refine (mixed _).mono ?_); rintro e w4 ⟨rfl, b4⟩; have d4 := At5.below b4 d3; have f4 := At5.below b4 f3; have x4 := d4; have y4 := f4; simp only [At5] at x4 y4))
    go_wp2
    go_ret
    exact ⟨rfl, bstep (bstep (bstep bb.drew b2) b3) b4⟩
  · have q2 : (x == y) = false := by simp [h1]
    have q3 : decide (x = y) = false := by simp [h1]
    have q5 : (b == 0) = false := by simp [h2]
    have q6 : decide (b = 0) = false := by simp [h2]
    go_enter Try.func9, Try.ntmps9
    go_wp2_with fail
    refine (C1.out _).mono ?_
    rintro e w1 ⟨rfl, b1⟩
    have hd1 := At5.below b1 hd0
    replace b1 := bstep b0 b1
    go_wp2_with fail
    have d1 := At5.below (fresh_below w1 (.cells u.cells 56)) hd1
    have f1 : At5 (w1.alloc (.cells u.cells 56)) w1.heap.size u := At5.new (heap_alloc_new w1 _)
    have bb := bstep b1 (fresh_below w1 (.cells u.cells 56))
    unfold Tup.cells at d1 f1 bb
    generalize w1.alloc (.cells #[.int .u8 u.p, .int .u32 u.si, .int .u16 u.sp, .int .u32 u.di, .int .u16 u.dp] 56) = W1 at *
    have x1 := d1
    have y1 := f1
    simp only [At5] at x1 y1
    go_region_held3 (fun w' => w'.cell? ⟨w.heap.size, 0, none⟩ = some (.int .u8 t.p) ∧ w'.cell? ⟨w.heap.size, 1, none⟩ = some (.int .u32 t.si) ∧ w'.cell? ⟨w.heap.size, 2, none⟩ = some (.int .u16 t.sp) ∧ w'.cell? ⟨w.heap.size, 3, none⟩ = some (.int .u32 t.di) ∧ w'.cell? ⟨w.heap.size, 4, none⟩ = some (.int .u16 t.dp) ∧ w'.cell? ⟨w1.heap.size, 0, none⟩ = some (.int .u8 u.p) ∧ w'.cell? ⟨w1.heap.size, 1, none⟩ = some (.int .u32 u.si) ∧ w'.cell? ⟨w1.heap.size, 2, none⟩ = some (.int .u16 u.sp) ∧ w'.cell? ⟨w1.heap.size, 3, none⟩ = some (.int .u32 u.di) ∧ w'.cell? ⟨w1.heap.size, 4, none⟩ = some (.int .u16 u.dp)) (simp [*])
      (first | (go_at_call 40; (with_reducible refine (C2.out _).mono ?_); clear C2; rintro e w2 ⟨rfl, b2⟩; have d2 := At5.below b2 d1; have f2 := At5.below b2 f1; have x2 := d2; have y2 := f2; simp only [At5] at x2 y2) | (go_at_call 40; (with_reducible refine (C3.out _).mono ?_); clear C3; rintro e w3 ⟨rfl, b3⟩; have d3 := At5.below b3 d2; have f3 := At5.below b3 f2; have x3 := d3; have y3 := f3; simp only [At5] at x3 y3) | (go_at_call 41; (with_reducible refine (mixed _).mono ?_); rintro e w4 ⟨rfl, b4⟩; have d4 := At5.below b4 d3; have f4 := At5.below b4 f3; have x4 := d4; have y4 := f4; simp only [At5] at x4 y4))
    go_wp2
    go_ret
    exact ⟨rfl, bstep (bstep (bstep bb.drew b2) b3) b4⟩

theorem HashesUnlike_walk (a0 a1 a2 a3 a4 f g : Int) (w : World) (h0 : 0 ≤ a0 ∧ a0 ≤ 255) (h1 : 0 ≤ a1 ∧ a1 ≤ 4294967295) (h2 : 0 ≤ a2 ∧ a2 ≤ 65535) (h3 : 0 ≤ a3 ∧ a3 ≤ 4294967295) (h4 : 0 ≤ a4 ∧ a4 ≤ 65535) (hf : 0 ≤ f ∧ f ≤ 255) (hg : 0 ≤ g ∧ g ≤ 255) :
    Calls Try.prog 9 #[.agg #[.int .u8 a0, .int .u32 a1, .int .u16 a2, .int .u32 a3, .int .u16 a4], .int .u8 f, .int .u8 g] w (Ret (.bool true) w) :=
  HashesUnlike_core ⟨a0, a1, a2, a3, a4⟩ ⟨h0, h1, h2, h3, h4⟩ f g w hf hg
end Go.Proofs.Ytcghhnehmddoeaa
