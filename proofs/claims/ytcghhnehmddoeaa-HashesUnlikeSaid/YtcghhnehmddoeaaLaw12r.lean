/- HashesRange over this program. -/
import Derived.Test.YtcghhnehmddoeaaLaw12
set_option linter.unusedVariables false
namespace Go.Proofs.Ytcghhnehmddoeaa
open Go.RowKit
attribute [local go_sem] Oper.semAt_some

theorem of_pos {t : Tup} {n : Int} (h : 1 ≤ n) : t.of n = t.num % n := by unfold Tup.of; rw [if_neg (by omega)]
theorem of_bd (t : Tup) {n : Int} (h : 1 ≤ n) : 0 ≤ t.of n ∧ t.of n < n := by rw [of_pos h]; exact ⟨Int.emod_nonneg _ (by omega), Int.emod_lt_of_pos _ (by omega)⟩
theorem of_whole (t : Tup) : t.of 4294967296 = t.num := by rw [of_pos (by omega)]; have := t.num_bd; omega
theorem of_part (t : Tup) {n m : Int} (h : 1 ≤ n) (k : 1 ≤ m) (hk : 1 ≤ n * m) : t.of (n * m) % n = t.of n := by
  rw [of_pos h, of_pos hk, Int.emod_emod_of_dvd _ (Int.dvd_mul_right n m)]

set_option maxHeartbeats 8000000 in
theorem HashesRange_core (t : Tup) (ht : t.Ok) (f g : Int) (w : World) (hf : 0 ≤ f ∧ f ≤ 65535) (hg : 0 ≤ g ∧ g ≤ 255) :
    Calls Try.prog 11 #[.agg t.cells, .int .u16 f, .int .u8 g] w (Ret (.bool true) w) := by
  obtain ⟨f0, f1⟩ := hf
  obtain ⟨g0, g1⟩ := hg
  obtain ⟨n, hn⟩ : ∃ n, n = 1 + f := ⟨_, rfl⟩
  obtain ⟨m, hm⟩ : ∃ m, m = 1 + g := ⟨_, rfl⟩
  obtain ⟨nm, hnm⟩ : ∃ q, q = n * m := ⟨_, rfl⟩
  have n1 : 1 ≤ n := by omega
  have m1 : 1 ≤ m := by omega
  have q1 : 1 ≤ nm := by rw [hnm]; have := Int.mul_le_mul n1 m1 (by omega) (by omega); simpa using this
  have q2 : nm ≤ 16777216 := by
    rw [hnm]
    have := Int.mul_le_mul (show n ≤ 65536 by omega) (show m ≤ 256 by omega) (by omega) (by omega); simpa using this
  let u : Tup := ⟨t.p, t.di, t.dp, t.si, t.sp⟩
  have hu : u.Ok := ⟨ht.1, ht.2.2.2.1, ht.2.2.2.2, ht.2.1, ht.2.2.1⟩
  have c1 := fun w => Of t ht n w (by omega)
  have c2 := fun w => Of t ht nm w (by omega)
  have c3 := fun w => Both t u ht hu n w (by omega)
  have c4 := fun w => Of t ht 4294967296 w (by omega)
  have c5 := fun w => Of t ht 1 w (by omega)
  have r1 := of_bd t n1
  have r2 := of_bd t q1
  have r3 := of_bd u n1
  have r4 := t.num_bd
  have e1 : t.of nm % n = t.of n := by rw [hnm]; exact of_part t n1 m1 (by omega)
  have e2 : t.num % n = t.of n := (of_pos n1).symm
  have e3 : t.of 1 = 0 := by have := of_bd t (show (1 : Int) ≤ 1 by omega); omega
  rw [of_whole] at c4
  rw [e3] at c5
  obtain ⟨a, ha⟩ : ∃ a, a = t.of n := ⟨_, rfl⟩
  obtain ⟨b, hb⟩ : ∃ b, b = t.of nm := ⟨_, rfl⟩
  obtain ⟨d, hd⟩ : ∃ d, d = u.of n := ⟨_, rfl⟩
  obtain ⟨v, hv⟩ : ∃ d, d = t.num := ⟨_, rfl⟩
  rw [← ha] at c1 c3 r1 e1 e2
  rw [← hb] at c2 r2 e1
  rw [← hd] at c3 r3
  rw [← hv] at c4 r4 e2
  have hd1 : At5 (w.alloc (.cells t.cells 56)) w.heap.size t := At5.new (heap_alloc_new w _)
  have b0 := fresh_below w (.cells t.cells 56)
  unfold Tup.cells at c1 c2 c3 c4 c5 hd1 b0 ⊢
  dsimp only [u] at c3
  clear hd hu
  clear u
  have t1 : b.tmod n = a := by rw [Int.tmod_eq_emod_of_nonneg r2.1]; exact e1
  have t2 : v.tmod n = a := by rw [Int.tmod_eq_emod_of_nonneg r4.1]; exact e2
  have k1 : IntKind.i64.wrap (1 + f) = n := by rw [hn]; exact IntWalk.i64_in _ (by omega)
  have k2 : IntKind.i64.wrap (1 + g) = m := by rw [hm]; exact IntWalk.i64_in _ (by omega)
  have k3 : IntKind.i64.wrap (n * m) = nm := by rw [← hnm]; exact IntWalk.i64_in _ (by omega)
  obtain ⟨r1a, r1b⟩ := r1
  obtain ⟨r2a, r2b⟩ := r2
  obtain ⟨r3a, r3b⟩ := r3
  obtain ⟨r4a, r4b⟩ := r4
  have C1 := hide c1; have C2 := hide c2; have C3 := hide c3; have C4 := hide c4; have C5 := hide c5
  clear c1 c2 c3 c4 c5 ha hb hv e3 ht
  clear k1 k2
  subst hn
  subst hm
  subst hnm
  go_enter Try.func11, Try.ntmps11
  go_wp2_with fail
  have y0 := hd1
  simp only [At5] at y0
  generalize w.alloc (.cells #[.int .u8 t.p, .int .u32 t.si, .int .u16 t.sp, .int .u32 t.di, .int .u16 t.dp] 56) = W0 at *
  go_region_held3 (fun w' => w'.cell? ⟨w.heap.size, 0, none⟩ = some (.int .u8 t.p) ∧ w'.cell? ⟨w.heap.size, 1, none⟩ = some (.int .u32 t.si) ∧ w'.cell? ⟨w.heap.size, 2, none⟩ = some (.int .u16 t.sp) ∧ w'.cell? ⟨w.heap.size, 3, none⟩ = some (.int .u32 t.di) ∧ w'.cell? ⟨w.heap.size, 4, none⟩ = some (.int .u16 t.dp)) (simp [*])
    (first | (go_at_call 40; (with_reducible refine (C1.out _).mono ?_); clear C1; rintro e w1 ⟨rfl, b1⟩; have d1 := At5.below b1 hd1; have y1 := d1; simp only [At5] at y1) | (go_at_call 40; (with_reducible refine (C2.out _).mono ?_); clear C2; rintro e w2 ⟨rfl, b2⟩; have d2 := At5.below b2 d1; have y2 := d2; simp only [At5] at y2))
  replace b1 := bstep b0.drew b1
  replace b2 := bstep b1 b2
  go_wp2_with fail
  refine (C3.out _).mono ?_
  rintro e w3 ⟨rfl, b3⟩
  have d3 := At5.below b3 d2
  have y3 := d3
  simp only [At5] at y3
  replace b3 := bstep b2 b3
  go_wp2_with fail
  refine (C4.out _).mono ?_
  rintro e w4 ⟨rfl, b4⟩
  have d4 := At5.below b4 d3
  have y4 := d4
  simp only [At5] at y4
  replace b4 := bstep b3 b4
  go_wp2_with fail
  refine (C5.out _).mono ?_
  rintro e w5 ⟨rfl, b5⟩
  replace b5 := bstep b4 b5
  go_wp2_with fail
  refine (mixed _).mono ?_
  rintro e w6 ⟨rfl, b6⟩
  replace b6 := bstep b5 b6
  go_wp2_with fail
  go_ret
  exact ⟨rfl, b6⟩

theorem HashesRange_walk (a0 a1 a2 a3 a4 f g : Int) (w : World) (h0 : 0 ≤ a0 ∧ a0 ≤ 255) (h1 : 0 ≤ a1 ∧ a1 ≤ 4294967295) (h2 : 0 ≤ a2 ∧ a2 ≤ 65535) (h3 : 0 ≤ a3 ∧ a3 ≤ 4294967295) (h4 : 0 ≤ a4 ∧ a4 ≤ 65535) (hf : 0 ≤ f ∧ f ≤ 65535) (hg : 0 ≤ g ∧ g ≤ 255) :
    Calls Try.prog 11 #[.agg #[.int .u8 a0, .int .u32 a1, .int .u16 a2, .int .u32 a3, .int .u16 a4], .int .u16 f, .int .u8 g] w (Ret (.bool true) w) :=
  HashesRange_core ⟨a0, a1, a2, a3, a4⟩ ⟨h0, h1, h2, h3, h4⟩ f g w hf hg
end Go.Proofs.Ytcghhnehmddoeaa
