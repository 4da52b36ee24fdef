/- The document's answer for ip (porterref04) over this program: what a text is as a packet. -/
import Derived.Test.YtlmpoikjjidgiaaIp3
set_option linter.unusedVariables false
set_option linter.unusedSimpArgs false
namespace Go.Proofs.Ytlmpoikjjidgiaa
open Go.RowKit
attribute [local go_sem] Oper.semAt_some

set_option maxHeartbeats 1000000 in
theorem r4_Parse_1 (s : ByteArray) (w : World) (h : s.size < 20) :
    Calls Try.prog 24 #[.string s] w (Ret (.tuple #[hdZero, .string { data := #[] }, .int .i64 1]) w) := by
  have q2 : (s.size : Int) < 20 := by omega
  unfold hdZero
  go_enter Try.func24, Try.ntmps24
  go_wp2_with fail
  (try simp only [Exit.inBlock, Exit.then]); refine bodyPost_ret (by simp [results, Try.results24, go_sem]; try rfl) rfl ?_
  exact ⟨rfl, (by (repeat' (first | with_reducible exact Below.refl _ _ | with_reducible refine Below.setCell ?_ (by first | exact Nat.le_refl _ | (dsimp only; omega)) _ | with_reducible refine bstep ?_ (fresh_below _ _) | with_reducible refine Below.drew ?_)))⟩
set_option maxHeartbeats 1000000 in
theorem r4_Parse_2 (s : ByteArray) (w : World) (hs : s.size ≤ 140737488351232) (h : 20 ≤ s.size) (h2 : at_ (L s) 0 / 16 ≠ 4) :
    Calls Try.prog 24 #[.string s] w (Ret (.tuple #[hdZero, .string { data := #[] }, .int .i64 2]) w) := by
  have q2 : ¬ (s.size : Int) < 20 := by omega
  have e0 : (((s[0]'(by omega)).toNat : Nat) : Int) = at_ (L s) 0 := by rw [getElem_L s 0 (by omega)]; rfl
  have hb := at_bd (L s) 0
  have i4 : (0 : Int) < (s.size : Int) := by omega
  have i5 : 0 < s.size := by omega
  obtain ⟨x, hx⟩ : ∃ x, x = at_ (L s) 0 := ⟨_, rfl⟩
  rw [← hx] at e0 hb h2
  have m1 : (x / 16 != 4) = true := by simpa using h2
  have m2 : (x / 16 == 4) = false := by simpa using h2
  clear hx h2
  unfold hdZero
  go_enter Try.func24, Try.ntmps24
  go_wp2_with fail
  (try simp only [Exit.inBlock, Exit.then]); refine bodyPost_ret (by simp [results, Try.results24, go_sem]; try rfl) rfl ?_
  exact ⟨rfl, (by (repeat' (first | with_reducible exact Below.refl _ _ | with_reducible refine Below.setCell ?_ (by first | exact Nat.le_refl _ | (dsimp only; omega)) _ | with_reducible refine bstep ?_ (fresh_below _ _) | with_reducible refine Below.drew ?_)))⟩
set_option maxHeartbeats 2000000 in
theorem r4_Parse_3 (s : ByteArray) (w : World) (hs : s.size ≤ 140737488351232) (h : 20 ≤ s.size) (h2 : at_ (L s) 0 / 16 = 4) (h3 : ipFits s = false) :
    Calls Try.prog 24 #[.string s] w (Ret (.tuple #[hdZero, .string { data := #[] }, .int .i64 3]) w) := by
  have q2 : ¬ (s.size : Int) < 20 := by omega
  have e0 : (((s[0]'(by omega)).toNat : Nat) : Int) = at_ (L s) 0 := by rw [getElem_L s 0 (by omega)]; rfl
  have hb := at_bd (L s) 0
  have i4 : (0 : Int) < (s.size : Int) := by omega
  have i5 : 0 < s.size := by omega
  have c1 := fun w => r4_number s 2 w (by unfold maxLen; omega) (by omega)
  rw [show ((2 : Nat) : Int) = 2 from rfl] at c1
  have hcase : ipOwn (L s) < 20 ∨ (¬ ipOwn (L s) < 20 ∧ (s.size : Int) < ipOwn (L s)) ∨ (¬ ipOwn (L s) < 20 ∧ ¬ (s.size : Int) < ipOwn (L s) ∧ ipAll (L s) < ipOwn (L s)) ∨ (¬ ipOwn (L s) < 20 ∧ ¬ (s.size : Int) < ipOwn (L s) ∧ ¬ ipAll (L s) < ipOwn (L s) ∧ (s.size : Int) < ipAll (L s)) ∨ (¬ ipOwn (L s) < 20 ∧ ¬ (s.size : Int) < ipOwn (L s) ∧ ¬ ipAll (L s) < ipOwn (L s) ∧ ¬ (s.size : Int) < ipAll (L s) ∧ 2048 < ipAll (L s)) := by
    unfold ipFits at h3
    simp at h3
    omega
  unfold ipAll ipOwn at hcase
  have hyb := get16_bd (L s) 2
  obtain ⟨x, hx⟩ : ∃ x, x = at_ (L s) 0 := ⟨_, rfl⟩
  obtain ⟨z, hz⟩ : ∃ z, z = get16 (L s) 2 := ⟨_, rfl⟩
  rw [← hx] at e0 hb h2
  rw [← hz] at c1 hyb
  have m1 : (x / 16 != 4) = false := by simpa using h2
  have m2 : (x / 16 == 4) = true := by simpa using h2
  have m5 : x.tmod 16 = x % 16 := Int.tmod_eq_emod_of_nonneg (by omega)
  rw [← hx, ← hz] at hcase
  have C1 := hide c1
  clear c1 hx hz h2 h3
  unfold hdZero
  rcases hcase with g1 | ⟨g1, g2⟩ | ⟨g1, g2, g3⟩ | ⟨g1, g2, g3, g4⟩ | ⟨g1, g2, g3, g4, g5⟩
  all_goals
    go_enter Try.func24, Try.ntmps24
    have d0 := Cells.new w #[.int .u8 0, .int .u16 0, .bool false, .int .u8 0, .int .u8 0, .int .u32 0, .int .u32 0, .string { data := #[] }] 51
    go_wp2_with fail
    go_quiet ((go_at_call 47; refine Calls.quiet_of_same (C1.out _)))
    have d1 : Cells ((w.alloc (.cells #[.int .u8 0, .int .u16 0, .bool false, .int .u8 0, .int .u8 0, .int .u32 0, .int .u32 0, .string { data := #[] }] 51)).drewN nq) w.heap.size #[.int .u8 0, .int .u16 0, .bool false, .int .u8 0, .int .u8 0, .int .u32 0, .int .u32 0, .string { data := #[] }] 51 := d0
    have b1 : Below w.heap.size w ((w.alloc (.cells #[.int .u8 0, .int .u16 0, .bool false, .int .u8 0, .int .u8 0, .int .u32 0, .int .u32 0, .string { data := #[] }] 51)).drewN nq) := below_drewN (fresh_below _ _) nq
    clear d0
    generalize (w.alloc (.cells #[.int .u8 0, .int .u16 0, .bool false, .int .u8 0, .int .u8 0, .int .u32 0, .int .u32 0, .string { data := #[] }] 51)).drewN nq = w1 at *
    have xd1_0 : w1.cell? ⟨w.heap.size, 0, none⟩ = some (.int .u8 0) := d1.at_ 0
    have xd1_1 : w1.cell? ⟨w.heap.size, 1, none⟩ = some (.int .u16 0) := d1.at_ 1
    have xd1_2 : w1.cell? ⟨w.heap.size, 2, none⟩ = some (.bool false) := d1.at_ 2
    have xd1_3 : w1.cell? ⟨w.heap.size, 3, none⟩ = some (.int .u8 0) := d1.at_ 3
    have xd1_4 : w1.cell? ⟨w.heap.size, 4, none⟩ = some (.int .u8 0) := d1.at_ 4
    have xd1_5 : w1.cell? ⟨w.heap.size, 5, none⟩ = some (.int .u32 0) := d1.at_ 5
    have xd1_6 : w1.cell? ⟨w.heap.size, 6, none⟩ = some (.int .u32 0) := d1.at_ 6
    have xd1_7 : w1.cell? ⟨w.heap.size, 7, none⟩ = some (.string { data := #[] }) := d1.at_ 7
    have yd1_0 : w1.frozen? ⟨w.heap.size, 0, none⟩ = false := d1.free 0
    have yd1_1 : w1.frozen? ⟨w.heap.size, 1, none⟩ = false := d1.free 1
    have yd1_2 : w1.frozen? ⟨w.heap.size, 2, none⟩ = false := d1.free 2
    have yd1_3 : w1.frozen? ⟨w.heap.size, 3, none⟩ = false := d1.free 3
    have yd1_4 : w1.frozen? ⟨w.heap.size, 4, none⟩ = false := d1.free 4
    have yd1_5 : w1.frozen? ⟨w.heap.size, 5, none⟩ = false := d1.free 5
    have yd1_6 : w1.frozen? ⟨w.heap.size, 6, none⟩ = false := d1.free 6
    have yd1_7 : w1.frozen? ⟨w.heap.size, 7, none⟩ = false := d1.free 7
    go_wp2_with fail
    have r5 := (Cells.put8 d1 (.int .u8 0) (.int .u16 0) (.bool false) (.int .u8 0) (.int .u8 0) (.int .u32 0) (.int .u32 0) (.string { data := #[] }))
    have b5 := (Below.put8 b1 (b := w.heap.size) (by first | exact Nat.le_refl _ | omega) (.int .u8 0) (.int .u16 0) (.bool false) (.int .u8 0) (.int .u8 0) (.int .u32 0) (.int .u32 0) (.string { data := #[] }))
    have HR5 := hide r5; have HB5 := hide b5
    clear r5 b5 d1
    generalize ((((((((w1.setCell ⟨w.heap.size, 0, none⟩ (.int .u8 0)).setCell ⟨w.heap.size, 1, none⟩ (.int .u16 0)).setCell ⟨w.heap.size, 2, none⟩ (.bool false)).setCell ⟨w.heap.size, 3, none⟩ (.int .u8 0)).setCell ⟨w.heap.size, 4, none⟩ (.int .u8 0)).setCell ⟨w.heap.size, 5, none⟩ (.int .u32 0)).setCell ⟨w.heap.size, 6, none⟩ (.int .u32 0)).setCell ⟨w.heap.size, 7, none⟩ (.string { data := #[] })) = W5 at *
    have r5 := HR5.out; have b5 := HB5.out
    clear HR5 HB5
    have xr5_0 : W5.cell? ⟨w.heap.size, 0, none⟩ = some (.int .u8 0) := r5.at_ 0
    have xr5_1 : W5.cell? ⟨w.heap.size, 1, none⟩ = some (.int .u16 0) := r5.at_ 1
    have xr5_2 : W5.cell? ⟨w.heap.size, 2, none⟩ = some (.bool false) := r5.at_ 2
    have xr5_3 : W5.cell? ⟨w.heap.size, 3, none⟩ = some (.int .u8 0) := r5.at_ 3
    have xr5_4 : W5.cell? ⟨w.heap.size, 4, none⟩ = some (.int .u8 0) := r5.at_ 4
    have xr5_5 : W5.cell? ⟨w.heap.size, 5, none⟩ = some (.int .u32 0) := r5.at_ 5
    have xr5_6 : W5.cell? ⟨w.heap.size, 6, none⟩ = some (.int .u32 0) := r5.at_ 6
    have xr5_7 : W5.cell? ⟨w.heap.size, 7, none⟩ = some (.string { data := #[] }) := r5.at_ 7
    (try simp only [Exit.inBlock, Exit.then]); refine bodyPost_ret (by simp [results, Try.results24, go_sem, *]; try rfl) rfl ?_
    exact ⟨rfl, b5⟩

end Go.Proofs.Ytlmpoikjjidgiaa
