/- The statements of hashes over this program: the examples, and the parts that all of them use. -/
import Derived.Test.YtcghhnehmddoeaaRef12n
set_option linter.unusedVariables false
namespace Go.Proofs.Ytcghhnehmddoeaa
open Go.RowKit
attribute [local go_sem] Oper.semAt_some

set_option maxHeartbeats 2000000 in
theorem r12_Both (s t : Tup) (hs : s.Ok) (ht : t.Ok) (n : Int) (w : World) (hn : -9223372036854775808 ≤ n ∧ n ≤ 9223372036854775807) :
    Calls Try.prog 43 #[.agg s.cells, .agg t.cells, .int .i64 n] w (Ret (.tuple #[.int .i64 (s.of n), .int .i64 (t.of n)]) w) := by
  have c1 := fun w => r12_Of s hs n w hn
  have c2 := fun w => r12_Of t ht n w hn
  obtain ⟨a, ha⟩ : ∃ a, a = s.of n := ⟨_, rfl⟩
  obtain ⟨b, hb⟩ : ∃ b, b = t.of n := ⟨_, rfl⟩
  rw [← ha] at c1 ⊢
  rw [← hb] at c2 ⊢
  unfold Tup.cells at c1 c2 ⊢
  have C1 := hide c1; have C2 := hide c2
  clear c1 c2 ha hb
  go_enter Try.func43, Try.ntmps43
  go_wp2_with fail
  have d1 := alloc_block (w.alloc (.cells s.cells 56)) (.cells t.cells 56) (.cells s.cells 56) (heap_alloc_new w _)
  have d2 := heap_alloc_new (w.alloc (.cells s.cells 56)) (.cells t.cells 56)
  rw [World.size_alloc] at d2
  have b0 := bstep (fresh_below w (.cells s.cells 56)) (fresh_below _ (.cells t.cells 56))
  unfold Tup.cells at d1 d2 b0
  generalize (w.alloc (.cells #[.int .u8 s.p, .int .u32 s.si, .int .u16 s.sp, .int .u32 s.di, .int .u16 s.dp] 56)).alloc (.cells #[.int .u8 t.p, .int .u32 t.si, .int .u16 t.sp, .int .u32 t.di, .int .u16 t.dp] 56) = W0 at *
  have e0 := fun i => Lib.cell_of_heap d1 i
  have e1 := fun i => Lib.cell_of_heap d2 i
  have x0 : W0.cell? ⟨w.heap.size, 0, none⟩ = some (.int .u8 s.p) := e0 0
  have x1 : W0.cell? ⟨w.heap.size, 1, none⟩ = some (.int .u32 s.si) := e0 1
  have x2 : W0.cell? ⟨w.heap.size, 2, none⟩ = some (.int .u16 s.sp) := e0 2
  have x3 : W0.cell? ⟨w.heap.size, 3, none⟩ = some (.int .u32 s.di) := e0 3
  have x4 : W0.cell? ⟨w.heap.size, 4, none⟩ = some (.int .u16 s.dp) := e0 4
  have y0 : W0.cell? ⟨w.heap.size + 1, 0, none⟩ = some (.int .u8 t.p) := e1 0
  have y1 : W0.cell? ⟨w.heap.size + 1, 1, none⟩ = some (.int .u32 t.si) := e1 1
  have y2 : W0.cell? ⟨w.heap.size + 1, 2, none⟩ = some (.int .u16 t.sp) := e1 2
  have y3 : W0.cell? ⟨w.heap.size + 1, 3, none⟩ = some (.int .u32 t.di) := e1 3
  have y4 : W0.cell? ⟨w.heap.size + 1, 4, none⟩ = some (.int .u16 t.dp) := e1 4
  clear e0 e1 d1 d2
  go_region_held3 (fun w' => w'.cell? ⟨w.heap.size, 0, none⟩ = some (.int .u8 s.p) ∧ w'.cell? ⟨w.heap.size, 1, none⟩ = some (.int .u32 s.si) ∧ w'.cell? ⟨w.heap.size, 2, none⟩ = some (.int .u16 s.sp) ∧ w'.cell? ⟨w.heap.size, 3, none⟩ = some (.int .u32 s.di) ∧ w'.cell? ⟨w.heap.size, 4, none⟩ = some (.int .u16 s.dp) ∧ w'.cell? ⟨w.heap.size + 1, 0, none⟩ = some (.int .u8 t.p) ∧ w'.cell? ⟨w.heap.size + 1, 1, none⟩ = some (.int .u32 t.si) ∧ w'.cell? ⟨w.heap.size + 1, 2, none⟩ = some (.int .u16 t.sp) ∧ w'.cell? ⟨w.heap.size + 1, 3, none⟩ = some (.int .u32 t.di) ∧ w'.cell? ⟨w.heap.size + 1, 4, none⟩ = some (.int .u16 t.dp)) (simp [*])
    (first | (go_at_call 54; (with_reducible refine (C1.out _).mono ?_); clear C1; rintro e w1 ⟨rfl, b1⟩; have px0 := cellAt b1 x0; have px1 := cellAt b1 x1; have px2 := cellAt b1 x2; have px3 := cellAt b1 x3; have px4 := cellAt b1 x4; have py0 := cellAt b1 y0; have py1 := cellAt b1 y1; have py2 := cellAt b1 y2; have py3 := cellAt b1 y3; have py4 := cellAt b1 y4) | (go_at_call 54; (with_reducible refine (C2.out _).mono ?_); clear C2; rintro e w2 ⟨rfl, b2⟩; have qx0 := cellAt b2 px0; have qx1 := cellAt b2 px1; have qx2 := cellAt b2 px2; have qx3 := cellAt b2 px3; have qx4 := cellAt b2 px4; have qy0 := cellAt b2 py0; have qy1 := cellAt b2 py1; have qy2 := cellAt b2 py2; have qy3 := cellAt b2 py3; have qy4 := cellAt b2 py4))
  go_wp2
  go_ret2
  exact ⟨rfl, bstep (bstep b0.drew b1) b2⟩

/-- a tuple lies in block k -/
def At5 (w : World) (k : Nat) (t : Tup) : Prop := w.cell? ⟨k, 0, none⟩ = some (.int .u8 t.p) ∧ w.cell? ⟨k, 1, none⟩ = some (.int .u32 t.si) ∧ w.cell? ⟨k, 2, none⟩ = some (.int .u16 t.sp) ∧ w.cell? ⟨k, 3, none⟩ = some (.int .u32 t.di) ∧ w.cell? ⟨k, 4, none⟩ = some (.int .u16 t.dp)
theorem At5.below {w w' : World} {k : Nat} {t : Tup} (b : Below w.heap.size w w') (h : At5 w k t) : At5 w' k t := ⟨cellAt b h.1, cellAt b h.2.1, cellAt b h.2.2.1, cellAt b h.2.2.2.1, cellAt b h.2.2.2.2⟩
theorem At5.new {w : World} {k : Nat} {t : Tup} (h : w.heap[k]? = some (.cells t.cells 56)) : At5 w k t := by
  have e := fun i => Lib.cell_of_heap h i
  exact ⟨e 0, e 1, e 2, e 3, e 4⟩

def tup0 : Tup := ⟨0, 0, 0, 0, 0⟩
def tup1 : Tup := ⟨1, 0, 0, 0, 0⟩
theorem tup0_ok : tup0.Ok := by simp [tup0, Tup.Ok]
theorem tup1_ok : tup1.Ok := by simp [tup1, Tup.Ok]

set_option maxHeartbeats 2000000 in
theorem mixed (w : World) : Calls Try.prog 41 #[] w (Ret (.bool true) w) := by
  have c0 := fun w => Of tup0 tup0_ok 4294967296 w (by omega)
  have c1 := fun w => Of tup1 tup1_ok 4294967296 w (by omega)
  have c2 := fun w => Of tup1 tup1_ok 1 w (by omega)
  have c3 := fun w => Of tup1 tup1_ok 0 w (by omega)
  have c4 := fun w => Of tup1 tup1_ok (-1) w (by omega)
  rw [show tup0.of 4294967296 = 0 from by decide +kernel] at c0
  rw [show tup1.of 1 = 0 from by decide +kernel] at c2
  rw [show tup1.of 0 = 0 from by decide +kernel] at c3
  rw [show tup1.of (-1) = 0 from by decide +kernel] at c4
  have h1 : 0 < tup1.of 4294967296 := by decide +kernel
  have h2 : tup1.of 4294967296 ≤ 9223372036854775807 := by decide +kernel
  obtain ⟨v, hv⟩ : ∃ v, v = tup1.of 4294967296 := ⟨_, rfl⟩
  rw [← hv] at c1 h1 h2
  clear hv
  unfold Tup.cells tup0 tup1 at *
  have C0 := hide c0; have C1 := hide c1; have C2 := hide c2; have C3 := hide c3; have C4 := hide c4
  clear c0 c1 c2 c3 c4
  go_enter Try.func41, Try.ntmps41
  go_wp2_with fail
  have d0 : At5 ((w.alloc (.cells tup0.cells 56)).alloc (.cells tup1.cells 56)) (w.heap.size + 1) tup1 := At5.new (by
    have := heap_alloc_new (w.alloc (.cells tup0.cells 56)) (.cells tup1.cells 56)
    rw [World.size_alloc] at this; exact this)
  have b0 := bstep (fresh_below w (.cells tup0.cells 56)) (fresh_below (w.alloc (.cells tup0.cells 56)) (.cells tup1.cells 56))
  simp only [Tup.cells, tup0, tup1] at d0 b0
  refine (C0.out _).mono ?_
  rintro e w1 ⟨rfl, b1⟩
  have d1 := At5.below b1 d0
  have y := d1
  simp only [At5] at y
  obtain ⟨y0, y1, y2, y3, y4⟩ := y
  replace b1 := bstep b0 b1
  go_wp2_with fail
  refine (C1.out _).mono ?_
  rintro e w2 ⟨rfl, b2⟩
  have d2 := At5.below b2 d1
  have y := d2
  simp only [At5] at y
  obtain ⟨y0, y1, y2, y3, y4⟩ := y
  replace b2 := bstep b1 b2
  go_wp2_with fail
  refine (C2.out _).mono ?_
  rintro e w3 ⟨rfl, b3⟩
  have d3 := At5.below b3 d2
  have y := d3
  simp only [At5] at y
  obtain ⟨y0, y1, y2, y3, y4⟩ := y
  replace b3 := bstep b2 b3
  go_wp2_with fail
  refine (C3.out _).mono ?_
  rintro e w4 ⟨rfl, b4⟩
  have d4 := At5.below b4 d3
  have y := d4
  simp only [At5] at y
  obtain ⟨y0, y1, y2, y3, y4⟩ := y
  replace b4 := bstep b3 b4
  go_wp2_with fail
  refine (C4.out _).mono ?_
  rintro e w5 ⟨rfl, b5⟩
  replace b5 := bstep b4 b5
  go_wp2_with fail
  go_ret
  exact ⟨rfl, b5⟩

set_option maxHeartbeats 4000000 in
theorem HashesTell_core (s t : Tup) (hs : s.Ok) (ht : t.Ok) (n : Int) (w : World) (hn : -9223372036854775808 ≤ n ∧ n ≤ 9223372036854775807) :
    Calls Try.prog 10 #[.agg s.cells, .agg t.cells, .int .i64 n] w (Ret (.bool true) w) := by
  have c1 := fun w => Both s t hs ht n w hn
  have c2 := fun w => r12_Both s t hs ht n w hn
  have c3 := fun w => Of s hs n w hn
  have c4 := fun w => Of t ht n w hn
  obtain ⟨a, ha⟩ : ∃ a, a = s.of n := ⟨_, rfl⟩
  obtain ⟨b, hb⟩ : ∃ b, b = t.of n := ⟨_, rfl⟩
  rw [← ha] at c1 c2 c3
  rw [← hb] at c1 c2 c4
  have hd1 : At5 ((w.alloc (.cells s.cells 56)).alloc (.cells t.cells 56)) w.heap.size s := At5.new (alloc_block _ _ _ (heap_alloc_new w _))
  have hd2 : At5 ((w.alloc (.cells s.cells 56)).alloc (.cells t.cells 56)) (w.heap.size + 1) t := At5.new (by
    have := heap_alloc_new (w.alloc (.cells s.cells 56)) (.cells t.cells 56)
    rw [World.size_alloc] at this; exact this)
  have b0 := bstep (fresh_below w (.cells s.cells 56)) (fresh_below (w.alloc (.cells s.cells 56)) (.cells t.cells 56))
  unfold Tup.cells at c1 c2 c3 c4 hd1 hd2 b0 ⊢
  have C1 := hide c1; have C2 := hide c2; have C3 := hide c3; have C4 := hide c4
  clear c1 c2 c3 c4 ha hb
  go_enter Try.func10, Try.ntmps10
  go_wp2_with fail
  refine (C1.out _).mono ?_
  rintro e w1 ⟨rfl, b1⟩
  have d1 := At5.below b1 hd1
  have f1 := At5.below b1 hd2
  have x1 := d1
  have y1 := f1
  simp only [At5] at x1 y1
  replace b1 := bstep b0 b1
  go_wp2_with fail
  refine (C2.out _).mono ?_
  rintro e w2 ⟨rfl, b2⟩
  have d2 := At5.below b2 d1
  have f2 := At5.below b2 f1
  have x2 := d2
  have y2 := f2
  simp only [At5] at x2 y2
  replace b2 := bstep b1 b2
  go_wp2_with fail
  refine (C3.out _).mono ?_
  rintro e w3 ⟨rfl, b3⟩
  have d3 := At5.below b3 d2
  have f3 := At5.below b3 f2
  have x3 := d3
  have y3 := f3
  simp only [At5] at x3 y3
  replace b3 := bstep b2 b3
  go_wp2_with fail
  refine (C4.out _).mono ?_
  rintro e w4 ⟨rfl, b4⟩
  replace b4 := bstep b3 b4
  go_wp2_with fail
  refine (mixed _).mono ?_
  rintro e w5 ⟨rfl, b5⟩
  replace b5 := bstep b4 b5
  go_wp2_with fail
  go_ret
  exact ⟨rfl, b5⟩

theorem HashesTell_walk (a0 a1 a2 a3 a4 b0 b1 b2 b3 b4 n : Int) (w : World) (h0 : 0 ≤ a0 ∧ a0 ≤ 255) (h1 : 0 ≤ a1 ∧ a1 ≤ 4294967295) (h2 : 0 ≤ a2 ∧ a2 ≤ 65535) (h3 : 0 ≤ a3 ∧ a3 ≤ 4294967295) (h4 : 0 ≤ a4 ∧ a4 ≤ 65535)
    (k0 : 0 ≤ b0 ∧ b0 ≤ 255) (k1 : 0 ≤ b1 ∧ b1 ≤ 4294967295) (k2 : 0 ≤ b2 ∧ b2 ≤ 65535) (k3 : 0 ≤ b3 ∧ b3 ≤ 4294967295) (k4 : 0 ≤ b4 ∧ b4 ≤ 65535) (hn : -9223372036854775808 ≤ n ∧ n ≤ 9223372036854775807) :
    Calls Try.prog 10 #[.agg #[.int .u8 a0, .int .u32 a1, .int .u16 a2, .int .u32 a3, .int .u16 a4], .agg #[.int .u8 b0, .int .u32 b1, .int .u16 b2, .int .u32 b3, .int .u16 b4], .int .i64 n] w (Ret (.bool true) w) :=
  HashesTell_core ⟨a0, a1, a2, a3, a4⟩ ⟨b0, b1, b2, b3, b4⟩ ⟨h0, h1, h2, h3, h4⟩ ⟨k0, k1, k2, k3, k4⟩ n w hn
end Go.Proofs.Ytcghhnehmddoeaa
