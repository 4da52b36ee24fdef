/- Several texts of this claim, one behind the other. -/
import Derived.Test.YtilfcikhipadpaaGreatDoorK19a

section
/- ip.Parse over this program, of what stands in order but may not hold. -/
set_option linter.unusedVariables false
set_option linter.unusedSimpArgs false
namespace Go.Proofs.YtilfcikhipadpaaGreatDoor
open Go.RowKit
attribute [local go_sem] Oper.semAt_some

set_option maxHeartbeats 1000000 in
theorem i_Parse_4 (s : ByteArray) (w : World) (hs : s.size ≤ 140737488351232) (h : 20 ≤ s.size) (h2 : at_ (L s) 0 / 16 = 4) (h3 : ipFits s = true) (h4 : holds [(L s).take (ipOwn (L s)).toNat] = false) :
    Calls Tryz.prog 74 #[.string s] w (Ret (.tuple #[hdZero, .string { data := #[] }, .int .i64 4]) w) := by
  have q2 : ¬ (s.size : Int) < 20 := by omega
  have e0 : (((s[0]'(by omega)).toNat : Nat) : Int) = at_ (L s) 0 := by rw [getElem_L s 0 (by omega)]; rfl
  have hb := at_bd (L s) 0
  have i4 : (0 : Int) < (s.size : Int) := by omega
  have i5 : 0 < s.size := by omega
  have c1 := fun w => i_lengths s w hs h
  rw [h3] at c1
  have f0 : 20 ≤ ipOwn (L s) ∧ ipOwn (L s) ≤ ipAll (L s) ∧ ipAll (L s) ≤ s.size ∧ ipAll (L s) ≤ 2048 := by unfold ipFits at h3; simpa [and_assoc] using h3
  have c2 := fun W => Holds (some ⟨W.heap.size, 0, none⟩) 1 1 [s.extract 0 (ipOwn (L s)).toNat] (W.alloc (.cells #[.string (s.extract 0 (ipOwn (L s)).toNat)] 9)) (Row.freshAt W #[.string (s.extract 0 (ipOwn (L s)).toNat)] 9 W.heap.size _ _ rfl rfl rfl) (by
      intro x hx
      simp only [List.mem_cons, List.not_mem_nil, or_false] at hx
      subst hx
      rw [ByteArray.size_extract]; omega) (by omega)
  rw [show [s.extract 0 (ipOwn (L s)).toNat].map L = [(L s).take (ipOwn (L s)).toNat] from by rw [← L_to]; rfl, h4] at c2
  obtain ⟨y, hy⟩ : ∃ y, y = ipOwn (L s) := ⟨_, rfl⟩
  obtain ⟨z, hz⟩ : ∃ z, z = ipAll (L s) := ⟨_, rfl⟩
  obtain ⟨x, hx⟩ : ∃ x, x = at_ (L s) 0 := ⟨_, rfl⟩
  rw [← hx] at e0 hb h2
  have m1 : (x / 16 != 4) = false := by simpa using h2
  have m2 : (x / 16 == 4) = true := by simpa using h2
  rw [← hy, ← hz] at c1 f0
  rw [← hy] at c2
  obtain ⟨f1, f2, f3, f4⟩ := f0
  have y0 : (0 : Int) ≤ y := by omega
  have y1 : y ≤ (s.size : Int) := by omega
  have C1 := hide c1; have C2 := hide c2
  clear c1 c2 hx hy hz h2 h3 h4
  unfold hdZero
  go_enter Tryz.func74, Tryz.ntmps74
  have d0 := Cells.new w #[.int .u8 0, .int .u16 0, .bool false, .int .u8 0, .int .u8 0, .int .u32 0, .int .u32 0, .string { data := #[] }] 151
  go_wp2_with fail
  (with_reducible refine (C1.out _).mono ?_)
  rintro e w1 ⟨rfl, n1, rfl⟩
  have d1 : Cells ((w.alloc (.cells #[.int .u8 0, .int .u16 0, .bool false, .int .u8 0, .int .u8 0, .int .u32 0, .int .u32 0, .string { data := #[] }] 151)).drewN n1) w.heap.size #[.int .u8 0, .int .u16 0, .bool false, .int .u8 0, .int .u8 0, .int .u32 0, .int .u32 0, .string { data := #[] }] 151 := d0
  have b1 : Below w.heap.size w ((w.alloc (.cells #[.int .u8 0, .int .u16 0, .bool false, .int .u8 0, .int .u8 0, .int .u32 0, .int .u32 0, .string { data := #[] }] 151)).drewN n1) := below_drewN (fresh_below _ _) n1
  clear d0
  generalize ((w.alloc (.cells #[.int .u8 0, .int .u16 0, .bool false, .int .u8 0, .int .u8 0, .int .u32 0, .int .u32 0, .string { data := #[] }] 151)).drewN n1) = w1 at *
  go_wp2_with fail
  (with_reducible refine (C2.out _).mono ?_)
  rintro e w2 ⟨rfl, b2⟩
  have d2 := Cells.up d1 (fresh_below _ _) b2
  replace b2 : Below w.heap.size w w2 := bstep (bstep b1 (fresh_below _ _)) b2
  clear d1 b1
  obtain ⟨xd2_0, xd2_1, xd2_2, xd2_3, xd2_4, xd2_5, xd2_6, xd2_7⟩ := d2.x8
  obtain ⟨yd2_0, yd2_1, yd2_2, yd2_3, yd2_4, yd2_5, yd2_6, yd2_7⟩ := d2.y8
  go_wp2_with fail
  have r5 := (Cells.put8 d2 (.int .u8 0) (.int .u16 0) (.bool false) (.int .u8 0) (.int .u8 0) (.int .u32 0) (.int .u32 0) (.string { data := #[] }))
  have b5 := (Below.put8 b2 (b := w.heap.size) (by first | exact Nat.le_refl _ | omega) (.int .u8 0) (.int .u16 0) (.bool false) (.int .u8 0) (.int .u8 0) (.int .u32 0) (.int .u32 0) (.string { data := #[] }))
  have HR5 := hide r5; have HB5 := hide b5
  clear r5 b5 d2
  generalize ((((((((w2.setCell ⟨w.heap.size, 0, none⟩ (.int .u8 0)).setCell ⟨w.heap.size, 1, none⟩ (.int .u16 0)).setCell ⟨w.heap.size, 2, none⟩ (.bool false)).setCell ⟨w.heap.size, 3, none⟩ (.int .u8 0)).setCell ⟨w.heap.size, 4, none⟩ (.int .u8 0)).setCell ⟨w.heap.size, 5, none⟩ (.int .u32 0)).setCell ⟨w.heap.size, 6, none⟩ (.int .u32 0)).setCell ⟨w.heap.size, 7, none⟩ (.string { data := #[] })) = W5 at *
  have r5 := HR5.out; have b5 := HB5.out
  clear HR5 HB5
  obtain ⟨xr5_0, xr5_1, xr5_2, xr5_3, xr5_4, xr5_5, xr5_6, xr5_7⟩ := r5.x8
  (try simp only [Exit.inBlock, Exit.then]); refine bodyPost_ret (by simp [results, Tryz.results74, go_sem, *]; try rfl) rfl ?_
  exact ⟨rfl, b5⟩

/-- what a packet's header tells -/
def hdOf (s : ByteArray) : Hd := ⟨at_ (L s) 1, get16 (L s) 4, decide (get16 (L s) 6 = 16384), at_ (L s) 8, at_ (L s) 9, get32 (L s) 12, get32 (L s) 16, s.extract 20 (ipOwn (L s)).toNat⟩

set_option maxRecDepth 100000 in
set_option maxHeartbeats 2000000 in
theorem i_Parse_5 (s : ByteArray) (w : World) (hs : s.size ≤ 140737488351232) (h : 20 ≤ s.size) (h2 : at_ (L s) 0 / 16 = 4) (h3 : ipFits s = true) (h4 : holds [(L s).take (ipOwn (L s)).toNat] = true) :
    Calls Tryz.prog 74 #[.string s] w (Ret (if get16 (L s) 6 ≠ 0 ∧ get16 (L s) 6 ≠ 16384 then .tuple #[hdZero, .string { data := #[] }, .int .i64 5] else .tuple #[.agg (hdOf s).cells, .string (s.extract (ipOwn (L s)).toNat (ipAll (L s)).toNat), .int .i64 0]) w) := by
  have q2 : ¬ (s.size : Int) < 20 := by omega
  have e0 : (((s[0]'(by omega)).toNat : Nat) : Int) = at_ (L s) 0 := by rw [getElem_L s 0 (by omega)]; rfl
  have hb := at_bd (L s) 0
  have i4 : (0 : Int) < (s.size : Int) := by omega
  have i5 : 0 < s.size := by omega
  have c1 := fun w => i_lengths s w hs h
  rw [h3] at c1
  have f0 : 20 ≤ ipOwn (L s) ∧ ipOwn (L s) ≤ ipAll (L s) ∧ ipAll (L s) ≤ s.size ∧ ipAll (L s) ≤ 2048 := by unfold ipFits at h3; simpa [and_assoc] using h3
  have c2 := fun W => Holds (some ⟨W.heap.size, 0, none⟩) 1 1 [s.extract 0 (ipOwn (L s)).toNat] (W.alloc (.cells #[.string (s.extract 0 (ipOwn (L s)).toNat)] 9)) (Row.freshAt W #[.string (s.extract 0 (ipOwn (L s)).toNat)] 9 W.heap.size _ _ rfl rfl rfl) (by
      intro x hx
      simp only [List.mem_cons, List.not_mem_nil, or_false] at hx
      subst hx
      rw [ByteArray.size_extract]; omega) (by omega)
  rw [show [s.extract 0 (ipOwn (L s)).toNat].map L = [(L s).take (ipOwn (L s)).toNat] from by rw [← L_to]; rfl, h4] at c2
  have i1 : (1 : Int) < (s.size : Int) := by omega
  have i1' : 1 < s.size := by omega
  have i8 : (8 : Int) < (s.size : Int) := by omega
  have i8' : 8 < s.size := by omega
  have i9 : (9 : Int) < (s.size : Int) := by omega
  have i9' : 9 < s.size := by omega
  have e1 : (((s[1]'(by omega)).toNat : Nat) : Int) = at_ (L s) 1 := by rw [getElem_L s 1 (by omega)]; rfl
  have e8 : (((s[8]'(by omega)).toNat : Nat) : Int) = at_ (L s) 8 := by rw [getElem_L s 8 (by omega)]; rfl
  have e9 : (((s[9]'(by omega)).toNat : Nat) : Int) = at_ (L s) 9 := by rw [getElem_L s 9 (by omega)]; rfl
  have c3 := fun W => i_two s 4 W (by unfold maxLen; omega) (by omega)
  have c4 := fun W => i_addr s 12 W (by unfold maxLen; omega) (by omega)
  have c5 := fun W => i_addr s 16 W (by unfold maxLen; omega) (by omega)
  have c6 := fun W => i_two s 6 W (by unfold maxLen; omega) (by omega)
  rw [show ((4 : Nat) : Int) = 4 from rfl] at c3
  rw [show ((12 : Nat) : Int) = 12 from rfl] at c4
  rw [show ((16 : Nat) : Int) = 16 from rfl] at c5
  rw [show ((6 : Nat) : Int) = 6 from rfl] at c6
  unfold Hd.cells hdOf
  obtain ⟨v1, hv1⟩ : ∃ v, v = at_ (L s) 1 := ⟨_, rfl⟩
  obtain ⟨v2, hv2⟩ : ∃ v, v = get16 (L s) 4 := ⟨_, rfl⟩
  obtain ⟨v3, hv3⟩ : ∃ v, v = at_ (L s) 8 := ⟨_, rfl⟩
  obtain ⟨v4, hv4⟩ : ∃ v, v = at_ (L s) 9 := ⟨_, rfl⟩
  obtain ⟨v5, hv5⟩ : ∃ v, v = get32 (L s) 12 := ⟨_, rfl⟩
  obtain ⟨v6, hv6⟩ : ∃ v, v = get32 (L s) 16 := ⟨_, rfl⟩
  obtain ⟨v7, hv7⟩ : ∃ v, v = get16 (L s) 6 := ⟨_, rfl⟩
  simp only [← hv1, ← hv2, ← hv3, ← hv4, ← hv5, ← hv6, ← hv7] at c3 c4 c5 c6 e1 e8 e9 ⊢
  obtain ⟨y, hy⟩ : ∃ y, y = ipOwn (L s) := ⟨_, rfl⟩
  obtain ⟨z, hz⟩ : ∃ z, z = ipAll (L s) := ⟨_, rfl⟩
  obtain ⟨x, hx⟩ : ∃ x, x = at_ (L s) 0 := ⟨_, rfl⟩
  rw [← hx] at e0 hb h2
  have m1 : (x / 16 != 4) = false := by simpa using h2
  have m2 : (x / 16 == 4) = true := by simpa using h2
  rw [← hy, ← hz] at c1 f0 ⊢
  rw [← hy] at c2
  obtain ⟨f1, f2, f3, f4⟩ := f0
  have y0 : (0 : Int) ≤ y := by omega
  have y1 : y ≤ (s.size : Int) := by omega
  obtain ⟨rv, hrv⟩ : ∃ rv, rv = (if v7 ≠ 0 ∧ v7 ≠ 16384 then Value.tuple #[hdZero, .string { data := #[] }, .int .i64 5] else .tuple #[.agg #[.int .u8 v1, .int .u16 v2, .bool (decide (v7 = 16384)), .int .u8 v3, .int .u8 v4, .int .u32 v5, .int .u32 v6, .string (s.extract 20 y.toNat)], .string (s.extract y.toNat z.toNat), .int .i64 0]) := ⟨_, rfl⟩
  rw [← hrv]
  have HRV := hide hrv
  have C1 := hide c1; have C2 := hide c2
  have C3 := hide c3; have C4 := hide c4; have C5 := hide c5; have C6 := hide c6
  clear c1 c2 c3 c4 c5 c6 hx hy hz h2 h3 h4 hv1 hv2 hv3 hv4 hv5 hv6 hv7 hrv
  go_enter Tryz.func74, Tryz.ntmps74
  have d0 := Cells.new w #[.int .u8 0, .int .u16 0, .bool false, .int .u8 0, .int .u8 0, .int .u32 0, .int .u32 0, .string { data := #[] }] 151
  go_wp2_with fail
  (with_reducible refine (C1.out _).mono ?_)
  rintro e w1 ⟨rfl, n1, rfl⟩
  have d1 : Cells ((w.alloc (.cells #[.int .u8 0, .int .u16 0, .bool false, .int .u8 0, .int .u8 0, .int .u32 0, .int .u32 0, .string { data := #[] }] 151)).drewN n1) w.heap.size #[.int .u8 0, .int .u16 0, .bool false, .int .u8 0, .int .u8 0, .int .u32 0, .int .u32 0, .string { data := #[] }] 151 := d0
  have b1 : Below w.heap.size w ((w.alloc (.cells #[.int .u8 0, .int .u16 0, .bool false, .int .u8 0, .int .u8 0, .int .u32 0, .int .u32 0, .string { data := #[] }] 151)).drewN n1) := below_drewN (fresh_below _ _) n1
  clear d0
  generalize ((w.alloc (.cells #[.int .u8 0, .int .u16 0, .bool false, .int .u8 0, .int .u8 0, .int .u32 0, .int .u32 0, .string { data := #[] }] 151)).drewN n1) = w1 at *
  go_wp2_with fail
  (with_reducible refine (C2.out _).mono ?_)
  rintro e w2 ⟨rfl, b2⟩
  have d2 := Cells.up d1 (fresh_below _ _) b2
  replace b2 : Below w.heap.size w w2 := bstep (bstep b1 (fresh_below _ _)) b2
  clear d1 b1
  have z2 : w.heap.size < w2.heap.size := d2.lt
  go_wp2_with fail
  refine' shareW (G := _) (A := fun X => Below w.heap.size w X ∧ Cells X w.heap.size #[.int .u8 0, .int .u16 0, .bool false, .int .u8 0, .int .u8 0, .int .u32 0, .int .u32 0, .string { data := #[] }] 151 ∧ Cells X w2.heap.size #[.int .u8 v1, .int .u16 v2, .bool false, .int .u8 v3, .int .u8 v4, .int .u32 v5, .int .u32 v6, .string (s.extract 20 y.toNat)] 151) (fun key => ?main) ?rest
  case main =>
    have hz0 : ∀ n, ((w2.drewN n).alloc (.cells #[.int .u8 0, .int .u16 0, .bool false, .int .u8 0, .int .u8 0, .int .u32 0, .int .u32 0, .string { data := #[] }] 151)).cell? ⟨w2.heap.size, 0, none⟩ = some (.int .u8 0) := fun n => (Cells.new w2 #[.int .u8 0, .int .u16 0, .bool false, .int .u8 0, .int .u8 0, .int .u32 0, .int .u32 0, .string { data := #[] }] 151).at_ 0
    have hf0 : ∀ n, ((w2.drewN n).alloc (.cells #[.int .u8 0, .int .u16 0, .bool false, .int .u8 0, .int .u8 0, .int .u32 0, .int .u32 0, .string { data := #[] }] 151)).frozen? ⟨w2.heap.size, 0, none⟩ = false := fun n => (Cells.new w2 #[.int .u8 0, .int .u16 0, .bool false, .int .u8 0, .int .u8 0, .int .u32 0, .int .u32 0, .string { data := #[] }] 151).free 0
    have hz1 : ∀ n, ((w2.drewN n).alloc (.cells #[.int .u8 0, .int .u16 0, .bool false, .int .u8 0, .int .u8 0, .int .u32 0, .int .u32 0, .string { data := #[] }] 151)).cell? ⟨w2.heap.size, 1, none⟩ = some (.int .u16 0) := fun n => (Cells.new w2 #[.int .u8 0, .int .u16 0, .bool false, .int .u8 0, .int .u8 0, .int .u32 0, .int .u32 0, .string { data := #[] }] 151).at_ 1
    have hf1 : ∀ n, ((w2.drewN n).alloc (.cells #[.int .u8 0, .int .u16 0, .bool false, .int .u8 0, .int .u8 0, .int .u32 0, .int .u32 0, .string { data := #[] }] 151)).frozen? ⟨w2.heap.size, 1, none⟩ = false := fun n => (Cells.new w2 #[.int .u8 0, .int .u16 0, .bool false, .int .u8 0, .int .u8 0, .int .u32 0, .int .u32 0, .string { data := #[] }] 151).free 1
    have hz2 : ∀ n, ((w2.drewN n).alloc (.cells #[.int .u8 0, .int .u16 0, .bool false, .int .u8 0, .int .u8 0, .int .u32 0, .int .u32 0, .string { data := #[] }] 151)).cell? ⟨w2.heap.size, 2, none⟩ = some (.bool false) := fun n => (Cells.new w2 #[.int .u8 0, .int .u16 0, .bool false, .int .u8 0, .int .u8 0, .int .u32 0, .int .u32 0, .string { data := #[] }] 151).at_ 2
    have hf2 : ∀ n, ((w2.drewN n).alloc (.cells #[.int .u8 0, .int .u16 0, .bool false, .int .u8 0, .int .u8 0, .int .u32 0, .int .u32 0, .string { data := #[] }] 151)).frozen? ⟨w2.heap.size, 2, none⟩ = false := fun n => (Cells.new w2 #[.int .u8 0, .int .u16 0, .bool false, .int .u8 0, .int .u8 0, .int .u32 0, .int .u32 0, .string { data := #[] }] 151).free 2
    have hz3 : ∀ n, ((w2.drewN n).alloc (.cells #[.int .u8 0, .int .u16 0, .bool false, .int .u8 0, .int .u8 0, .int .u32 0, .int .u32 0, .string { data := #[] }] 151)).cell? ⟨w2.heap.size, 3, none⟩ = some (.int .u8 0) := fun n => (Cells.new w2 #[.int .u8 0, .int .u16 0, .bool false, .int .u8 0, .int .u8 0, .int .u32 0, .int .u32 0, .string { data := #[] }] 151).at_ 3
    have hf3 : ∀ n, ((w2.drewN n).alloc (.cells #[.int .u8 0, .int .u16 0, .bool false, .int .u8 0, .int .u8 0, .int .u32 0, .int .u32 0, .string { data := #[] }] 151)).frozen? ⟨w2.heap.size, 3, none⟩ = false := fun n => (Cells.new w2 #[.int .u8 0, .int .u16 0, .bool false, .int .u8 0, .int .u8 0, .int .u32 0, .int .u32 0, .string { data := #[] }] 151).free 3
    have hz4 : ∀ n, ((w2.drewN n).alloc (.cells #[.int .u8 0, .int .u16 0, .bool false, .int .u8 0, .int .u8 0, .int .u32 0, .int .u32 0, .string { data := #[] }] 151)).cell? ⟨w2.heap.size, 4, none⟩ = some (.int .u8 0) := fun n => (Cells.new w2 #[.int .u8 0, .int .u16 0, .bool false, .int .u8 0, .int .u8 0, .int .u32 0, .int .u32 0, .string { data := #[] }] 151).at_ 4
    have hf4 : ∀ n, ((w2.drewN n).alloc (.cells #[.int .u8 0, .int .u16 0, .bool false, .int .u8 0, .int .u8 0, .int .u32 0, .int .u32 0, .string { data := #[] }] 151)).frozen? ⟨w2.heap.size, 4, none⟩ = false := fun n => (Cells.new w2 #[.int .u8 0, .int .u16 0, .bool false, .int .u8 0, .int .u8 0, .int .u32 0, .int .u32 0, .string { data := #[] }] 151).free 4
    have hz5 : ∀ n, ((w2.drewN n).alloc (.cells #[.int .u8 0, .int .u16 0, .bool false, .int .u8 0, .int .u8 0, .int .u32 0, .int .u32 0, .string { data := #[] }] 151)).cell? ⟨w2.heap.size, 5, none⟩ = some (.int .u32 0) := fun n => (Cells.new w2 #[.int .u8 0, .int .u16 0, .bool false, .int .u8 0, .int .u8 0, .int .u32 0, .int .u32 0, .string { data := #[] }] 151).at_ 5
    have hf5 : ∀ n, ((w2.drewN n).alloc (.cells #[.int .u8 0, .int .u16 0, .bool false, .int .u8 0, .int .u8 0, .int .u32 0, .int .u32 0, .string { data := #[] }] 151)).frozen? ⟨w2.heap.size, 5, none⟩ = false := fun n => (Cells.new w2 #[.int .u8 0, .int .u16 0, .bool false, .int .u8 0, .int .u8 0, .int .u32 0, .int .u32 0, .string { data := #[] }] 151).free 5
    have hz6 : ∀ n, ((w2.drewN n).alloc (.cells #[.int .u8 0, .int .u16 0, .bool false, .int .u8 0, .int .u8 0, .int .u32 0, .int .u32 0, .string { data := #[] }] 151)).cell? ⟨w2.heap.size, 6, none⟩ = some (.int .u32 0) := fun n => (Cells.new w2 #[.int .u8 0, .int .u16 0, .bool false, .int .u8 0, .int .u8 0, .int .u32 0, .int .u32 0, .string { data := #[] }] 151).at_ 6
    have hf6 : ∀ n, ((w2.drewN n).alloc (.cells #[.int .u8 0, .int .u16 0, .bool false, .int .u8 0, .int .u8 0, .int .u32 0, .int .u32 0, .string { data := #[] }] 151)).frozen? ⟨w2.heap.size, 6, none⟩ = false := fun n => (Cells.new w2 #[.int .u8 0, .int .u16 0, .bool false, .int .u8 0, .int .u8 0, .int .u32 0, .int .u32 0, .string { data := #[] }] 151).free 6
    have hz7 : ∀ n, ((w2.drewN n).alloc (.cells #[.int .u8 0, .int .u16 0, .bool false, .int .u8 0, .int .u8 0, .int .u32 0, .int .u32 0, .string { data := #[] }] 151)).cell? ⟨w2.heap.size, 7, none⟩ = some (.string { data := #[] }) := fun n => (Cells.new w2 #[.int .u8 0, .int .u16 0, .bool false, .int .u8 0, .int .u8 0, .int .u32 0, .int .u32 0, .string { data := #[] }] 151).at_ 7
    have hf7 : ∀ n, ((w2.drewN n).alloc (.cells #[.int .u8 0, .int .u16 0, .bool false, .int .u8 0, .int .u8 0, .int .u32 0, .int .u32 0, .string { data := #[] }] 151)).frozen? ⟨w2.heap.size, 7, none⟩ = false := fun n => (Cells.new w2 #[.int .u8 0, .int .u16 0, .bool false, .int .u8 0, .int .u8 0, .int .u32 0, .int .u32 0, .string { data := #[] }] 151).free 7
    have hN : ∀ n, Cells ((w2.drewN n).alloc (.cells #[.int .u8 0, .int .u16 0, .bool false, .int .u8 0, .int .u8 0, .int .u32 0, .int .u32 0, .string { data := #[] }] 151)) w2.heap.size #[.int .u8 0, .int .u16 0, .bool false, .int .u8 0, .int .u8 0, .int .u32 0, .int .u32 0, .string { data := #[] }] 151 := fun n => Cells.new w2 _ _
    have hR : ∀ n, Cells ((w2.drewN n).alloc (.cells #[.int .u8 0, .int .u16 0, .bool false, .int .u8 0, .int .u8 0, .int .u32 0, .int .u32 0, .string { data := #[] }] 151)) w.heap.size #[.int .u8 0, .int .u16 0, .bool false, .int .u8 0, .int .u8 0, .int .u32 0, .int .u32 0, .string { data := #[] }] 151 := fun n => Cells.alloc (w := w2.drewN n) d2 _
    have hB : ∀ n, Below w.heap.size w ((w2.drewN n).alloc (.cells #[.int .u8 0, .int .u16 0, .bool false, .int .u8 0, .int .u8 0, .int .u32 0, .int .u32 0, .string { data := #[] }] 151)) := fun n => bstep (below_drewN b2 n) (fresh_below _ _)
    have hN2 : ∀ n m, Cells (((w2.drewN n).alloc (.cells #[.int .u8 0, .int .u16 0, .bool false, .int .u8 0, .int .u8 0, .int .u32 0, .int .u32 0, .string { data := #[] }] 151)).drewN m) w2.heap.size #[.int .u8 0, .int .u16 0, .bool false, .int .u8 0, .int .u8 0, .int .u32 0, .int .u32 0, .string { data := #[] }] 151 := fun n m => hN n
    have hR2 : ∀ n m, Cells (((w2.drewN n).alloc (.cells #[.int .u8 0, .int .u16 0, .bool false, .int .u8 0, .int .u8 0, .int .u32 0, .int .u32 0, .string { data := #[] }] 151)).drewN m) w.heap.size #[.int .u8 0, .int .u16 0, .bool false, .int .u8 0, .int .u8 0, .int .u32 0, .int .u32 0, .string { data := #[] }] 151 := fun n m => hR n
    have hB2 : ∀ n m, Below w.heap.size w (((w2.drewN n).alloc (.cells #[.int .u8 0, .int .u16 0, .bool false, .int .u8 0, .int .u8 0, .int .u32 0, .int .u32 0, .string { data := #[] }] 151)).drewN m) := fun n m => below_drewN (hB n) m
    refine wp_region_held_drew (S := fun _ => True) (by kernel_rfl) trivial (fun _ => ?_)
    refine tH 0 rfl trivial ?_
    try simp only [Act.put, putT]
    refine tH 1 rfl trivial ?_
    try simp only [Act.put, putT]
    refine tH 2 rfl trivial ?_
    try simp only [Act.put, putT]
    refine tH 4 rfl trivial ?_
    try simp only [Act.put, putT]
    refine tH 5 rfl trivial ?_
    try simp only [Act.put, putT]
    refine tH 6 rfl trivial ?_
    try simp only [Act.put, putT]
    refine tH 7 rfl trivial ?_
    try simp only [Act.put, putT]
    refine tH 8 rfl trivial ?_
    try simp only [Act.put, putT]
    refine tH 10 rfl trivial ?_
    try simp only [Act.put, putT]
    refine tH 12 rfl trivial ?_
    try simp only [Act.put, putT]
    refine tH 13 rfl trivial ?_
    try simp only [Act.put, putT]
    refine tH 14 rfl trivial ?_
    try simp only [Act.put, putT]
    refine wpAnyH_ready (rs := [3, 16]) (by kernel_rfl) (by simp) ?_
    refine AllReadyH.cons rfl (fun K hK => ?_) (AllReadyH.cons rfl (fun K hK => ?_) AllReadyH.nil)
    · skip
      rw [if_pos (by rfl)]
      (try simp only [putG])
      go_simp
      (with_reducible refine (C3.out _).mono ?_)
      rintro e wq ⟨rfl, nq, rfl⟩
      (try rw [alloc_drewN])
      try go_wp2_with fail
      refine hK.out _ _ trivial (fun _ => ?_)
      clear hK K
      try simp only [Act.put, putT]
      refine wpAnyH_ready (rs := [9, 16]) (by kernel_rfl) (by simp) ?_
      refine AllReadyH.cons rfl (fun K hK => ?_) (AllReadyH.cons rfl (fun K hK => ?_) AllReadyH.nil)
      · skip
        rw [if_pos (by rfl)]
        (try simp only [putG])
        go_simp
        (with_reducible refine (C4.out _).mono ?_)
        rintro e wq ⟨rfl, nq, rfl⟩
        (try rw [alloc_drewN])
        try go_wp2_with fail
        refine hK.out _ _ trivial (fun _ => ?_)
        clear hK K
        try simp only [Act.put, putT]
        refine wpAnyH_ready (rs := [11, 16]) (by kernel_rfl) (by simp) ?_
        refine AllReadyH.cons rfl (fun K hK => ?_) (AllReadyH.cons rfl (fun K hK => ?_) AllReadyH.nil)
        · skip
          rw [if_pos (by rfl)]
          (try simp only [putG])
          go_simp
          (with_reducible refine (C5.out _).mono ?_)
          rintro e wq ⟨rfl, nq, rfl⟩
          (try rw [alloc_drewN])
          try go_wp2_with fail
          refine hK.out _ _ trivial (fun _ => ?_)
          clear hK K
          try simp only [Act.put, putT]
          refine tH 15 rfl trivial ?_
          try simp only [Act.put, putT]
          refine wpAnyH_ready (rs := [16]) (by kernel_rfl) (by simp) ?_
          refine AllReadyH.cons rfl (fun K hK => ?_) AllReadyH.nil
          rw [if_pos (by rfl)]
          (try simp only [putG])
          go_simp
          refine hK.out _ _ trivial (fun _ => ?_)
          clear hK K
          try simp only [Act.put, putT]
          refine wpAnyH_ready (rs := [17]) (by kernel_rfl) (by simp) ?_
          refine AllReadyH.cons rfl (fun K hK => ?_) AllReadyH.nil
          rw [if_pos (by rfl)]
          (try simp only [putG])
          go_simp
          refine hK.out _ _ trivial (fun _ => ?_)
          clear hK K
          try simp only [Act.put, putT]
          refine wpAnyH_done (by kernel_rfl) ?_ _
          first | with_reducible exact key _ ⟨Below.put8 (hB _) (Nat.le_of_lt z2) (.int .u8 v1) (.int .u16 v2) (.bool false) (.int .u8 v3) (.int .u8 v4) (.int .u32 v5) (.int .u32 v6) (.string (s.extract 20 y.toNat)), Cells.far8 (hR _) (Nat.ne_of_lt z2) (.int .u8 v1) (.int .u16 v2) (.bool false) (.int .u8 v3) (.int .u8 v4) (.int .u32 v5) (.int .u32 v6) (.string (s.extract 20 y.toNat)), Cells.put8 (hN _) (.int .u8 v1) (.int .u16 v2) (.bool false) (.int .u8 v3) (.int .u8 v4) (.int .u32 v5) (.int .u32 v6) (.string (s.extract 20 y.toNat))⟩ | with_reducible exact key _ ⟨Below.put8 (hB2 _ _) (Nat.le_of_lt z2) (.int .u8 v1) (.int .u16 v2) (.bool false) (.int .u8 v3) (.int .u8 v4) (.int .u32 v5) (.int .u32 v6) (.string (s.extract 20 y.toNat)), Cells.far8 (hR2 _ _) (Nat.ne_of_lt z2) (.int .u8 v1) (.int .u16 v2) (.bool false) (.int .u8 v3) (.int .u8 v4) (.int .u32 v5) (.int .u32 v6) (.string (s.extract 20 y.toNat)), Cells.put8 (hN2 _ _) (.int .u8 v1) (.int .u16 v2) (.bool false) (.int .u8 v3) (.int .u8 v4) (.int .u32 v5) (.int .u32 v6) (.string (s.extract 20 y.toNat))⟩
        · skip
          rw [if_pos (by rfl)]
          (try simp only [putG])
          go_simp
          refine hK.out _ _ trivial (fun _ => ?_)
          clear hK K
          try simp only [Act.put, putT]
          refine wpAnyH_ready (rs := [11]) (by kernel_rfl) (by simp) ?_
          refine AllReadyH.cons rfl (fun K hK => ?_) AllReadyH.nil
          rw [if_pos (by rfl)]
          (try simp only [putG])
          go_simp
          (with_reducible refine (C5.out _).mono ?_)
          rintro e wq ⟨rfl, nq, rfl⟩
          (try rw [alloc_drewN])
          try go_wp2_with fail
          refine hK.out _ _ trivial (fun _ => ?_)
          clear hK K
          try simp only [Act.put, putT]
          refine tH 15 rfl trivial ?_
          try simp only [Act.put, putT]
          refine wpAnyH_ready (rs := [17]) (by kernel_rfl) (by simp) ?_
          refine AllReadyH.cons rfl (fun K hK => ?_) AllReadyH.nil
          rw [if_pos (by rfl)]
          (try simp only [putG])
          go_simp
          refine hK.out _ _ trivial (fun _ => ?_)
          clear hK K
          try simp only [Act.put, putT]
          refine wpAnyH_done (by kernel_rfl) ?_ _
          first | with_reducible exact key _ ⟨Below.put8 (hB _) (Nat.le_of_lt z2) (.int .u8 v1) (.int .u16 v2) (.bool false) (.int .u8 v3) (.int .u8 v4) (.int .u32 v5) (.int .u32 v6) (.string (s.extract 20 y.toNat)), Cells.far8 (hR _) (Nat.ne_of_lt z2) (.int .u8 v1) (.int .u16 v2) (.bool false) (.int .u8 v3) (.int .u8 v4) (.int .u32 v5) (.int .u32 v6) (.string (s.extract 20 y.toNat)), Cells.put8 (hN _) (.int .u8 v1) (.int .u16 v2) (.bool false) (.int .u8 v3) (.int .u8 v4) (.int .u32 v5) (.int .u32 v6) (.string (s.extract 20 y.toNat))⟩ | with_reducible exact key _ ⟨Below.put8 (hB2 _ _) (Nat.le_of_lt z2) (.int .u8 v1) (.int .u16 v2) (.bool false) (.int .u8 v3) (.int .u8 v4) (.int .u32 v5) (.int .u32 v6) (.string (s.extract 20 y.toNat)), Cells.far8 (hR2 _ _) (Nat.ne_of_lt z2) (.int .u8 v1) (.int .u16 v2) (.bool false) (.int .u8 v3) (.int .u8 v4) (.int .u32 v5) (.int .u32 v6) (.string (s.extract 20 y.toNat)), Cells.put8 (hN2 _ _) (.int .u8 v1) (.int .u16 v2) (.bool false) (.int .u8 v3) (.int .u8 v4) (.int .u32 v5) (.int .u32 v6) (.string (s.extract 20 y.toNat))⟩
      · skip
        rw [if_pos (by rfl)]
        (try simp only [putG])
        go_simp
        refine hK.out _ _ trivial (fun _ => ?_)
        clear hK K
        try simp only [Act.put, putT]
        refine wpAnyH_ready (rs := [9]) (by kernel_rfl) (by simp) ?_
        refine AllReadyH.cons rfl (fun K hK => ?_) AllReadyH.nil
        rw [if_pos (by rfl)]
        (try simp only [putG])
        go_simp
        (with_reducible refine (C4.out _).mono ?_)
        rintro e wq ⟨rfl, nq, rfl⟩
        (try rw [alloc_drewN])
        try go_wp2_with fail
        refine hK.out _ _ trivial (fun _ => ?_)
        clear hK K
        try simp only [Act.put, putT]
        refine wpAnyH_ready (rs := [11]) (by kernel_rfl) (by simp) ?_
        refine AllReadyH.cons rfl (fun K hK => ?_) AllReadyH.nil
        rw [if_pos (by rfl)]
        (try simp only [putG])
        go_simp
        (with_reducible refine (C5.out _).mono ?_)
        rintro e wq ⟨rfl, nq, rfl⟩
        (try rw [alloc_drewN])
        try go_wp2_with fail
        refine hK.out _ _ trivial (fun _ => ?_)
        clear hK K
        try simp only [Act.put, putT]
        refine tH 15 rfl trivial ?_
        try simp only [Act.put, putT]
        refine wpAnyH_ready (rs := [17]) (by kernel_rfl) (by simp) ?_
        refine AllReadyH.cons rfl (fun K hK => ?_) AllReadyH.nil
        rw [if_pos (by rfl)]
        (try simp only [putG])
        go_simp
        refine hK.out _ _ trivial (fun _ => ?_)
        clear hK K
        try simp only [Act.put, putT]
        refine wpAnyH_done (by kernel_rfl) ?_ _
        first | with_reducible exact key _ ⟨Below.put8 (hB _) (Nat.le_of_lt z2) (.int .u8 v1) (.int .u16 v2) (.bool false) (.int .u8 v3) (.int .u8 v4) (.int .u32 v5) (.int .u32 v6) (.string (s.extract 20 y.toNat)), Cells.far8 (hR _) (Nat.ne_of_lt z2) (.int .u8 v1) (.int .u16 v2) (.bool false) (.int .u8 v3) (.int .u8 v4) (.int .u32 v5) (.int .u32 v6) (.string (s.extract 20 y.toNat)), Cells.put8 (hN _) (.int .u8 v1) (.int .u16 v2) (.bool false) (.int .u8 v3) (.int .u8 v4) (.int .u32 v5) (.int .u32 v6) (.string (s.extract 20 y.toNat))⟩ | with_reducible exact key _ ⟨Below.put8 (hB2 _ _) (Nat.le_of_lt z2) (.int .u8 v1) (.int .u16 v2) (.bool false) (.int .u8 v3) (.int .u8 v4) (.int .u32 v5) (.int .u32 v6) (.string (s.extract 20 y.toNat)), Cells.far8 (hR2 _ _) (Nat.ne_of_lt z2) (.int .u8 v1) (.int .u16 v2) (.bool false) (.int .u8 v3) (.int .u8 v4) (.int .u32 v5) (.int .u32 v6) (.string (s.extract 20 y.toNat)), Cells.put8 (hN2 _ _) (.int .u8 v1) (.int .u16 v2) (.bool false) (.int .u8 v3) (.int .u8 v4) (.int .u32 v5) (.int .u32 v6) (.string (s.extract 20 y.toNat))⟩
    · skip
      rw [if_pos (by rfl)]
      (try simp only [putG])
      go_simp
      refine hK.out _ _ trivial (fun _ => ?_)
      clear hK K
      try simp only [Act.put, putT]
      refine wpAnyH_ready (rs := [3]) (by kernel_rfl) (by simp) ?_
      refine AllReadyH.cons rfl (fun K hK => ?_) AllReadyH.nil
      rw [if_pos (by rfl)]
      (try simp only [putG])
      go_simp
      (with_reducible refine (C3.out _).mono ?_)
      rintro e wq ⟨rfl, nq, rfl⟩
      (try rw [alloc_drewN])
      try go_wp2_with fail
      refine hK.out _ _ trivial (fun _ => ?_)
      clear hK K
      try simp only [Act.put, putT]
      refine wpAnyH_ready (rs := [9]) (by kernel_rfl) (by simp) ?_
      refine AllReadyH.cons rfl (fun K hK => ?_) AllReadyH.nil
      rw [if_pos (by rfl)]
      (try simp only [putG])
      go_simp
      (with_reducible refine (C4.out _).mono ?_)
      rintro e wq ⟨rfl, nq, rfl⟩
      (try rw [alloc_drewN])
      try go_wp2_with fail
      refine hK.out _ _ trivial (fun _ => ?_)
      clear hK K
      try simp only [Act.put, putT]
      refine wpAnyH_ready (rs := [11]) (by kernel_rfl) (by simp) ?_
      refine AllReadyH.cons rfl (fun K hK => ?_) AllReadyH.nil
      rw [if_pos (by rfl)]
      (try simp only [putG])
      go_simp
      (with_reducible refine (C5.out _).mono ?_)
      rintro e wq ⟨rfl, nq, rfl⟩
      (try rw [alloc_drewN])
      try go_wp2_with fail
      refine hK.out _ _ trivial (fun _ => ?_)
      clear hK K
      try simp only [Act.put, putT]
      refine tH 15 rfl trivial ?_
      try simp only [Act.put, putT]
      refine wpAnyH_ready (rs := [17]) (by kernel_rfl) (by simp) ?_
      refine AllReadyH.cons rfl (fun K hK => ?_) AllReadyH.nil
      rw [if_pos (by rfl)]
      (try simp only [putG])
      go_simp
      refine hK.out _ _ trivial (fun _ => ?_)
      clear hK K
      try simp only [Act.put, putT]
      refine wpAnyH_done (by kernel_rfl) ?_ _
      first | with_reducible exact key _ ⟨Below.put8 (hB _) (Nat.le_of_lt z2) (.int .u8 v1) (.int .u16 v2) (.bool false) (.int .u8 v3) (.int .u8 v4) (.int .u32 v5) (.int .u32 v6) (.string (s.extract 20 y.toNat)), Cells.far8 (hR _) (Nat.ne_of_lt z2) (.int .u8 v1) (.int .u16 v2) (.bool false) (.int .u8 v3) (.int .u8 v4) (.int .u32 v5) (.int .u32 v6) (.string (s.extract 20 y.toNat)), Cells.put8 (hN _) (.int .u8 v1) (.int .u16 v2) (.bool false) (.int .u8 v3) (.int .u8 v4) (.int .u32 v5) (.int .u32 v6) (.string (s.extract 20 y.toNat))⟩ | with_reducible exact key _ ⟨Below.put8 (hB2 _ _) (Nat.le_of_lt z2) (.int .u8 v1) (.int .u16 v2) (.bool false) (.int .u8 v3) (.int .u8 v4) (.int .u32 v5) (.int .u32 v6) (.string (s.extract 20 y.toNat)), Cells.far8 (hR2 _ _) (Nat.ne_of_lt z2) (.int .u8 v1) (.int .u16 v2) (.bool false) (.int .u8 v3) (.int .u8 v4) (.int .u32 v5) (.int .u32 v6) (.string (s.extract 20 y.toNat)), Cells.put8 (hN2 _ _) (.int .u8 v1) (.int .u16 v2) (.bool false) (.int .u8 v3) (.int .u8 v4) (.int .u32 v5) (.int .u32 v6) (.string (s.extract 20 y.toNat))⟩
  case rest =>
    intro X hX
    obtain ⟨bX, rX, hX⟩ := hX
    have hcase : v7 = 0 ∨ v7 = 16384 ∨ (v7 ≠ 0 ∧ v7 ≠ 16384) := by omega
    rcases hcase with rfl | rfl | ⟨g1, g2⟩
    · go_wp2_with fail
      (with_reducible refine (C6.out _).mono ?_)
      rintro e w3 ⟨rfl, n3, rfl⟩
      have b3 : Below w.heap.size w (X.drewN n3) := below_drewN bX n3
      have r3 : Cells (X.drewN n3) w.heap.size #[.int .u8 0, .int .u16 0, .bool false, .int .u8 0, .int .u8 0, .int .u32 0, .int .u32 0, .string { data := #[] }] 151 := rX
      have h3 : Cells (X.drewN n3) w2.heap.size #[.int .u8 v1, .int .u16 v2, .bool false, .int .u8 v3, .int .u8 v4, .int .u32 v5, .int .u32 v6, .string (s.extract 20 y.toNat)] 151 := hX
      clear bX rX hX
      generalize X.drewN n3 = X3 at *
      go_wp2_with fail
      have fS := hide (fun (X : World) (hX : Cells X w2.heap.size #[.int .u8 v1, .int .u16 v2, .bool false, .int .u8 v3, .int .u8 v4, .int .u32 v5, .int .u32 v6, .string (s.extract 20 y.toNat)] 151) => (show World.cell? X ⟨w2.heap.size, 0, none⟩ = some (.int .u8 v1) ∧ World.cell? X ⟨w2.heap.size, 1, none⟩ = some (.int .u16 v2) ∧ World.cell? X ⟨w2.heap.size, 2, none⟩ = some (.bool false) ∧ World.cell? X ⟨w2.heap.size, 3, none⟩ = some (.int .u8 v3) ∧ World.cell? X ⟨w2.heap.size, 4, none⟩ = some (.int .u8 v4) ∧ World.cell? X ⟨w2.heap.size, 5, none⟩ = some (.int .u32 v5) ∧ World.cell? X ⟨w2.heap.size, 6, none⟩ = some (.int .u32 v6) ∧ World.cell? X ⟨w2.heap.size, 7, none⟩ = some (.string (s.extract 20 y.toNat)) from ⟨hX.at_ 0, hX.at_ 1, hX.at_ 2, hX.at_ 3, hX.at_ 4, hX.at_ 5, hX.at_ 6, hX.at_ 7⟩))
      have H4 := hide h3
      have bB : Below w.heap.size w X3 := b3
      obtain ⟨xh3_0, xh3_1, xh3_2, xh3_3, xh3_4, xh3_5, xh3_6, xh3_7⟩ := h3.x8
      obtain ⟨xr3_0, xr3_1, xr3_2, xr3_3, xr3_4, xr3_5, xr3_6, xr3_7⟩ := r3.x8
      obtain ⟨yr3_0, yr3_1, yr3_2, yr3_3, yr3_4, yr3_5, yr3_6, yr3_7⟩ := r3.y8
      go_region_held3 (fun zW => World.cell? zW ⟨w2.heap.size, 0, none⟩ = some (.int .u8 v1) ∧ World.cell? zW ⟨w2.heap.size, 1, none⟩ = some (.int .u16 v2) ∧ World.cell? zW ⟨w2.heap.size, 2, none⟩ = some (.bool false) ∧ World.cell? zW ⟨w2.heap.size, 3, none⟩ = some (.int .u8 v3) ∧ World.cell? zW ⟨w2.heap.size, 4, none⟩ = some (.int .u8 v4) ∧ World.cell? zW ⟨w2.heap.size, 5, none⟩ = some (.int .u32 v5) ∧ World.cell? zW ⟨w2.heap.size, 6, none⟩ = some (.int .u32 v6) ∧ World.cell? zW ⟨w2.heap.size, 7, none⟩ = some (.string (s.extract 20 y.toNat))) (((try dsimp only); with_reducible refine fS.out _ ?_; (repeat' (first | with_reducible exact H4.out | with_reducible refine Cells.drew ?_ | with_reducible refine Cells.other ?_ (Nat.ne_of_gt z2) _ _))))
        (fail)
      go_wp2
      have r5 := (Cells.put8 r3 (.int .u8 v1) (.int .u16 v2) (.bool false) (.int .u8 v3) (.int .u8 v4) (.int .u32 v5) (.int .u32 v6) (.string (s.extract 20 y.toNat))).drew
      have b5 := (Below.put8 bB (b := w.heap.size) (by first | exact Nat.le_refl _ | omega) (.int .u8 v1) (.int .u16 v2) (.bool false) (.int .u8 v3) (.int .u8 v4) (.int .u32 v5) (.int .u32 v6) (.string (s.extract 20 y.toNat))).drew
      have HR5 := hide r5; have HB5 := hide b5
      clear r5 b5 r3
      generalize ((((((((X3.setCell ⟨w.heap.size, 0, none⟩ (.int .u8 v1)).setCell ⟨w.heap.size, 1, none⟩ (.int .u16 v2)).setCell ⟨w.heap.size, 2, none⟩ (.bool false)).setCell ⟨w.heap.size, 3, none⟩ (.int .u8 v3)).setCell ⟨w.heap.size, 4, none⟩ (.int .u8 v4)).setCell ⟨w.heap.size, 5, none⟩ (.int .u32 v5)).setCell ⟨w.heap.size, 6, none⟩ (.int .u32 v6)).setCell ⟨w.heap.size, 7, none⟩ (.string (s.extract 20 y.toNat))).drew = W5 at *
      have r5 := HR5.out; have b5 := HB5.out
      clear HR5 HB5
      obtain ⟨xr5_0, xr5_1, xr5_2, xr5_3, xr5_4, xr5_5, xr5_6, xr5_7⟩ := r5.x8
      (try simp only [Exit.inBlock, Exit.then]); refine bodyPost_ret (by simp [results, Tryz.results74, go_sem, *]; try rfl) rfl ?_
      exact ⟨by rw [HRV.out]; rfl, b5⟩
    · go_wp2_with fail
      (with_reducible refine (C6.out _).mono ?_)
      rintro e w3 ⟨rfl, n3, rfl⟩
      have b3 : Below w.heap.size w (X.drewN n3) := below_drewN bX n3
      have r3 : Cells (X.drewN n3) w.heap.size #[.int .u8 0, .int .u16 0, .bool false, .int .u8 0, .int .u8 0, .int .u32 0, .int .u32 0, .string { data := #[] }] 151 := rX
      have h3 : Cells (X.drewN n3) w2.heap.size #[.int .u8 v1, .int .u16 v2, .bool false, .int .u8 v3, .int .u8 v4, .int .u32 v5, .int .u32 v6, .string (s.extract 20 y.toNat)] 151 := hX
      clear bX rX hX
      generalize X.drewN n3 = X3 at *
      have k2 : X3.cell? ⟨w2.heap.size, 2, none⟩ = some (.bool false) := h3.at_ 2
      have k3 := h3.free 2
      have h5 : Cells (X3.setCell ⟨w2.heap.size, 2, none⟩ (.bool true)) w2.heap.size #[.int .u8 v1, .int .u16 v2, .bool true, .int .u8 v3, .int .u8 v4, .int .u32 v5, .int .u32 v6, .string (s.extract 20 y.toNat)] 151 := h3.set_ 2 (.bool true)
      have r6 := r3.other (Nat.ne_of_lt z2) 2 (.bool true)
      have b6 := b3.setCell (p := ⟨w2.heap.size, 2, none⟩) (Nat.le_of_lt z2) (.bool true)
      have R6 := hide r6; have B6 := hide b6; have H5 := hide h5
      clear r3 h3 b3 r6 b6 h5
      go_wp2_with fail
      generalize X3.setCell ⟨w2.heap.size, 2, none⟩ (.bool true) = X4 at *
      clear k2 k3
      have h4 := H5.out; have r4 := R6.out; have b4 := B6.out
      clear R6 B6 H5
      have fS := hide (fun (X : World) (hX : Cells X w2.heap.size #[.int .u8 v1, .int .u16 v2, .bool true, .int .u8 v3, .int .u8 v4, .int .u32 v5, .int .u32 v6, .string (s.extract 20 y.toNat)] 151) => (show World.cell? X ⟨w2.heap.size, 0, none⟩ = some (.int .u8 v1) ∧ World.cell? X ⟨w2.heap.size, 1, none⟩ = some (.int .u16 v2) ∧ World.cell? X ⟨w2.heap.size, 2, none⟩ = some (.bool true) ∧ World.cell? X ⟨w2.heap.size, 3, none⟩ = some (.int .u8 v3) ∧ World.cell? X ⟨w2.heap.size, 4, none⟩ = some (.int .u8 v4) ∧ World.cell? X ⟨w2.heap.size, 5, none⟩ = some (.int .u32 v5) ∧ World.cell? X ⟨w2.heap.size, 6, none⟩ = some (.int .u32 v6) ∧ World.cell? X ⟨w2.heap.size, 7, none⟩ = some (.string (s.extract 20 y.toNat)) from ⟨hX.at_ 0, hX.at_ 1, hX.at_ 2, hX.at_ 3, hX.at_ 4, hX.at_ 5, hX.at_ 6, hX.at_ 7⟩))
      have H4 := hide h4
      have bB : Below w.heap.size w X4 := b4
      obtain ⟨xh4_0, xh4_1, xh4_2, xh4_3, xh4_4, xh4_5, xh4_6, xh4_7⟩ := h4.x8
      obtain ⟨xr4_0, xr4_1, xr4_2, xr4_3, xr4_4, xr4_5, xr4_6, xr4_7⟩ := r4.x8
      obtain ⟨yr4_0, yr4_1, yr4_2, yr4_3, yr4_4, yr4_5, yr4_6, yr4_7⟩ := r4.y8
      go_region_held3 (fun zW => World.cell? zW ⟨w2.heap.size, 0, none⟩ = some (.int .u8 v1) ∧ World.cell? zW ⟨w2.heap.size, 1, none⟩ = some (.int .u16 v2) ∧ World.cell? zW ⟨w2.heap.size, 2, none⟩ = some (.bool true) ∧ World.cell? zW ⟨w2.heap.size, 3, none⟩ = some (.int .u8 v3) ∧ World.cell? zW ⟨w2.heap.size, 4, none⟩ = some (.int .u8 v4) ∧ World.cell? zW ⟨w2.heap.size, 5, none⟩ = some (.int .u32 v5) ∧ World.cell? zW ⟨w2.heap.size, 6, none⟩ = some (.int .u32 v6) ∧ World.cell? zW ⟨w2.heap.size, 7, none⟩ = some (.string (s.extract 20 y.toNat))) (((try dsimp only); with_reducible refine fS.out _ ?_; (repeat' (first | with_reducible exact H4.out | with_reducible refine Cells.drew ?_ | with_reducible refine Cells.other ?_ (Nat.ne_of_gt z2) _ _))))
        (fail)
      go_wp2
      have r5 := (Cells.put8 r4 (.int .u8 v1) (.int .u16 v2) (.bool true) (.int .u8 v3) (.int .u8 v4) (.int .u32 v5) (.int .u32 v6) (.string (s.extract 20 y.toNat))).drew
      have b5 := (Below.put8 bB (b := w.heap.size) (by first | exact Nat.le_refl _ | omega) (.int .u8 v1) (.int .u16 v2) (.bool true) (.int .u8 v3) (.int .u8 v4) (.int .u32 v5) (.int .u32 v6) (.string (s.extract 20 y.toNat))).drew
      have HR5 := hide r5; have HB5 := hide b5
      clear r5 b5 r4
      generalize ((((((((X4.setCell ⟨w.heap.size, 0, none⟩ (.int .u8 v1)).setCell ⟨w.heap.size, 1, none⟩ (.int .u16 v2)).setCell ⟨w.heap.size, 2, none⟩ (.bool true)).setCell ⟨w.heap.size, 3, none⟩ (.int .u8 v3)).setCell ⟨w.heap.size, 4, none⟩ (.int .u8 v4)).setCell ⟨w.heap.size, 5, none⟩ (.int .u32 v5)).setCell ⟨w.heap.size, 6, none⟩ (.int .u32 v6)).setCell ⟨w.heap.size, 7, none⟩ (.string (s.extract 20 y.toNat))).drew = W5 at *
      have r5 := HR5.out; have b5 := HB5.out
      clear HR5 HB5
      obtain ⟨xr5_0, xr5_1, xr5_2, xr5_3, xr5_4, xr5_5, xr5_6, xr5_7⟩ := r5.x8
      (try simp only [Exit.inBlock, Exit.then]); refine bodyPost_ret (by simp [results, Tryz.results74, go_sem, *]; try rfl) rfl ?_
      exact ⟨by rw [HRV.out]; rfl, b5⟩
    · have m3 : (v7 == 0) = false := by simpa using g1
      have m4 : (v7 == 16384) = false := by simpa using g2
      have e5 : rv = Value.tuple #[hdZero, .string { data := #[] }, .int .i64 5] := by rw [HRV.out, if_pos ⟨g1, g2⟩]
      have HE5 := hide e5
      clear e5
      go_wp2_with fail
      (with_reducible refine (C6.out _).mono ?_)
      rintro e w3 ⟨rfl, n3, rfl⟩
      have b3 : Below w.heap.size w (X.drewN n3) := below_drewN bX n3
      have r3 : Cells (X.drewN n3) w.heap.size #[.int .u8 0, .int .u16 0, .bool false, .int .u8 0, .int .u8 0, .int .u32 0, .int .u32 0, .string { data := #[] }] 151 := rX
      clear bX rX hX
      generalize X.drewN n3 = X3 at *
      obtain ⟨xr3_0, xr3_1, xr3_2, xr3_3, xr3_4, xr3_5, xr3_6, xr3_7⟩ := r3.x8
      obtain ⟨yr3_0, yr3_1, yr3_2, yr3_3, yr3_4, yr3_5, yr3_6, yr3_7⟩ := r3.y8
      go_wp2_with fail
      have r5 := (Cells.put8 r3 (.int .u8 0) (.int .u16 0) (.bool false) (.int .u8 0) (.int .u8 0) (.int .u32 0) (.int .u32 0) (.string { data := #[] }))
      have b5 := (Below.put8 b3 (b := w.heap.size) (by first | exact Nat.le_refl _ | omega) (.int .u8 0) (.int .u16 0) (.bool false) (.int .u8 0) (.int .u8 0) (.int .u32 0) (.int .u32 0) (.string { data := #[] }))
      have HR5 := hide r5; have HB5 := hide b5
      clear r5 b5 r3
      generalize ((((((((X3.setCell ⟨w.heap.size, 0, none⟩ (.int .u8 0)).setCell ⟨w.heap.size, 1, none⟩ (.int .u16 0)).setCell ⟨w.heap.size, 2, none⟩ (.bool false)).setCell ⟨w.heap.size, 3, none⟩ (.int .u8 0)).setCell ⟨w.heap.size, 4, none⟩ (.int .u8 0)).setCell ⟨w.heap.size, 5, none⟩ (.int .u32 0)).setCell ⟨w.heap.size, 6, none⟩ (.int .u32 0)).setCell ⟨w.heap.size, 7, none⟩ (.string { data := #[] })) = W5 at *
      have r5 := HR5.out; have b5 := HB5.out
      clear HR5 HB5
      obtain ⟨xr5_0, xr5_1, xr5_2, xr5_3, xr5_4, xr5_5, xr5_6, xr5_7⟩ := r5.x8
      (try simp only [Exit.inBlock, Exit.then]); refine bodyPost_ret (by simp [results, Tryz.results74, go_sem, *]; try rfl) rfl ?_
      exact ⟨by rw [HE5.out]; rfl, b5⟩
end Go.Proofs.YtilfcikhipadpaaGreatDoor
end

section
/- The bytes of a header of ip over this program. -/
set_option linter.unusedVariables false
set_option linter.unusedSimpArgs false
namespace Go.Proofs.YtilfcikhipadpaaGreatDoor
open Go.RowKit
attribute [local go_sem] Oper.semAt_some

def Hd.cut (h : Hd) : Int := if h.f = true then 16384 else 0
def Hd.words (h : Hd) (size sum : Int) : List Int := [(64 + (20 + (h.o.size : Int)) / 4) * 256 + h.t, size, h.i, h.cut, h.l * 256 + h.p, sum]
/-- a header's bytes -/
def Hd.bytes (h : Hd) (size sum : Int) : List UInt8 := putW (h.words size sum) ++ put32 h.s ++ put32 h.d ++ L h.o

end Go.Proofs.YtilfcikhipadpaaGreatDoor
end

section
/- The document's answer for ip (porterref04) over this program: a header's bytes. -/
set_option linter.unusedVariables false
set_option linter.unusedSimpArgs false
namespace Go.Proofs.YtilfcikhipadpaaGreatDoor
open Go.RowKit
attribute [local go_sem] Oper.semAt_some

set_option maxRecDepth 100000 in
set_option maxHeartbeats 2000000 in
theorem r4_Bytes (t i l p s d size sum : Int) (f : Bool) (o : ByteArray) (w : World) (hk : (Hd.mk t i f l p s d o).Ok) (h1 : o.size ≤ 40) (h2 : o.size % 4 = 0) (hz : 0 ≤ size ∧ size ≤ 65535) (hm : 0 ≤ sum ∧ sum ≤ 65535) :
    Calls Tryz.prog 130 #[.agg #[.int .u8 t, .int .u16 i, .bool f, .int .u8 l, .int .u8 p, .int .u32 s, .int .u32 d, .string o], .int .i64 size, .int .u16 sum] w (Ret (.string (S ((Hd.mk t i f l p s d o).bytes size sum))) w) := by
  obtain ⟨⟨t0, t1⟩, ⟨i0, i1⟩, ⟨l0, l1⟩, ⟨p0, p1⟩, hs, hd, ho⟩ := hk
  simp only at t0 t1 i0 i1 l0 l1 p0 p1 hs hd ho
  obtain ⟨c, hc⟩ : ∃ c, c = (Hd.mk t i f l p s d o).cut := ⟨_, rfl⟩
  have hcb : 0 ≤ c ∧ c ≤ 65535 := by rw [hc]; unfold Hd.cut; split <;> omega
  obtain ⟨v, hv⟩ : ∃ v, v = 69 + (o.size : Int) / 4 := ⟨_, rfl⟩
  have hend : S [byt v, byt t] ++ S (putW [size, i, c]) ++ S [byt l, byt p] ++ S (put16 sum) ++ S (put32 s) ++ S (put32 d) ++ o = S ((Hd.mk t i f l p s d o).bytes size sum) := by
    apply L_inj
    unfold Hd.bytes Hd.words
    rw [← hc]
    have e1 : put16 ((64 + (20 + (o.size : Int)) / 4) * 256 + t) = [byt v, byt t] := by
      unfold put16
      rw [show ((64 + (20 + (o.size : Int)) / 4) * 256 + t) / 256 = v from by rw [hv]; omega, byt_eq ((64 + (20 + (o.size : Int)) / 4) * 256 + t) t (by omega) t0 (by omega)]
    have e2 : put16 (l * 256 + p) = [byt l, byt p] := by
      unfold put16
      rw [show (l * 256 + p) / 256 = l from by omega, byt_eq (l * 256 + p) p (by omega) p0 (by omega)]
    simp only [L_append, L_S, putW, List.flatMap_cons, List.flatMap_nil, List.append_assoc, List.append_nil, e1, e2]
  have hl : ∀ x ∈ [size, i, c], 0 ≤ x ∧ x ≤ 65535 := by
    intro x hx
    simp only [List.mem_cons, List.not_mem_nil, or_false] at hx
    rcases hx with rfl | rfl | rfl <;> omega
  have f1 := fun (A : Option Addr) (W : World) (hr : Row W W.heap.size A 3 (ints16 [size, i, c])) => r_Word A 3 3 [size, i, c] W hr hl (by omega)
  have f2 := fun W => r_Put16 sum W hm.1 hm.2
  have f3 := fun W => r_Put32 s W hs.1 hs.2
  have f4 := fun W => r_Put32 d W hd.1 hd.2
  obtain ⟨s1, hs1⟩ : ∃ x, x = S [byt v, byt t] := ⟨_, rfl⟩
  obtain ⟨s2, hs2⟩ : ∃ x, x = S (putW [size, i, c]) := ⟨_, rfl⟩
  obtain ⟨s3, hs3⟩ : ∃ x, x = S [byt l, byt p] := ⟨_, rfl⟩
  obtain ⟨s4, hs4⟩ : ∃ x, x = S (put16 sum) := ⟨_, rfl⟩
  obtain ⟨s5, hs5⟩ : ∃ x, x = S (put32 s) := ⟨_, rfl⟩
  obtain ⟨s6, hs6⟩ : ∃ x, x = S (put32 d) := ⟨_, rfl⟩
  have a1 : s1.size = 2 := by rw [hs1]; rfl
  have a2 : s2.size = 6 := by rw [hs2]; rfl
  have a3 : s3.size = 2 := by rw [hs3]; rfl
  have a4 : s4.size = 2 := by rw [hs4]; rfl
  have a5 : s5.size = 4 := by rw [hs5]; rfl
  have a6 : s6.size = 4 := by rw [hs6]; rfl
  rw [← hs1, ← hs2, ← hs3, ← hs4, ← hs5, ← hs6] at hend
  rw [← hs2] at f1; rw [← hs4] at f2; rw [← hs5] at f3; rw [← hs6] at f4
  have cv : ∀ (W : World) (b : Nat), W.cell? ⟨b, 0, none⟩ = some (.int .u8 v) → W.cell? ⟨b, 1, none⟩ = some (.int .u8 t) → (convert 237 9 (.slice (some ⟨b, 0, none⟩) 2 2)).run Tryz.prog W = .ok (.string s1) W := fun W b h0 h1 => by
    rw [hs1]
    exact run_convert_bytes_arg (P := Tryz.prog) W 237 5 Tryz.underlying237 Tryz.underlying5 b 0 2 2 [v, t] rfl
      (fun i hi => by
        match i, hi with
        | 0, _ => exact h0
        | 1, _ => exact h1) 9 Tryz.underlying9
  have cw : ∀ (W : World) (b : Nat), W.cell? ⟨b, 0, none⟩ = some (.int .u8 l) → W.cell? ⟨b, 1, none⟩ = some (.int .u8 p) → (convert 237 9 (.slice (some ⟨b, 0, none⟩) 2 2)).run Tryz.prog W = .ok (.string s3) W := fun W b h0 h1 => by
    rw [hs3]
    exact run_convert_bytes_arg (P := Tryz.prog) W 237 5 Tryz.underlying237 Tryz.underlying5 b 0 2 2 [l, p] rfl
      (fun i hi => by
        match i, hi with
        | 0, _ => exact h0
        | 1, _ => exact h1) 9 Tryz.underlying9
  have b5 : (s1 ++ s2).size = 8 := by rw [ByteArray.size_append, a1, a2]
  have b6 : (s1 ++ s2 ++ s3).size = 10 := by rw [ByteArray.size_append, b5, a3]
  have b7 : (s1 ++ s2 ++ s3 ++ s4).size = 12 := by rw [ByteArray.size_append, b6, a4]
  have b8 : (s1 ++ s2 ++ s3 ++ s4 ++ s5).size = 16 := by rw [ByteArray.size_append, b7, a5]
  have b9 : (s1 ++ s2 ++ s3 ++ s4 ++ s5 ++ s6).size = 20 := by rw [ByteArray.size_append, b8, a6]
  have b10 : (s1 ++ s2 ++ s3 ++ s4 ++ s5 ++ s6 ++ o).size = 20 + o.size := by rw [ByteArray.size_append, b9]
  have wz : IntKind.u16.wrap size = size := by rw [IntKind.wrap_u16]; omega
  have wv : IntKind.u8.wrap v = v := by rw [IntKind.wrap_u8]; omega
  have hv2 : 69 + (o.size : Int) / 4 = v := hv.symm
  have F1 := hide f1; have F2 := hide f2; have F3 := hide f3; have F4 := hide f4; have HE := hide hend; have HC := hide hc
  clear f1 f2 f3 f4 hend hs1 hs2 hs3 hs4 hs5 hs6 hl hs hd hv hc hcb
  have hf : f = true ∨ f = false := by cases f <;> simp
  rcases hf with rfl | rfl
  · have hc : c = 16384 := HC.out
    subst hc
    go_enter Tryz.func130, Tryz.ntmps130
    have d0 := Cells.new w #[.int .u8 t, .int .u16 i, .bool true, .int .u8 l, .int .u8 p, .int .u32 s, .int .u32 d, .string o] 160
    have d1 := Cells.below (fresh_below (w.alloc (.cells #[.int .u8 t, .int .u16 i, .bool true, .int .u8 l, .int .u8 p, .int .u32 s, .int .u32 d, .string o] 160)) (.cells #[.int .u8 v, .int .u8 t] 5)) d0
    obtain ⟨xd0_0, xd0_1, xd0_2, xd0_3, xd0_4, xd0_5, xd0_6, xd0_7⟩ := d0.x8
    obtain ⟨yd0_0, yd0_1, yd0_2, yd0_3, yd0_4, yd0_5, yd0_6, yd0_7⟩ := d0.y8
    obtain ⟨xd1_0, xd1_1, xd1_2, xd1_3, xd1_4, xd1_5, xd1_6, xd1_7⟩ := d1.x8
    obtain ⟨yd1_0, yd1_1, yd1_2, yd1_3, yd1_4, yd1_5, yd1_6, yd1_7⟩ := d1.y8
    go_wp2_with fail
    (with_reducible refine (F1.out _ _ (by (repeat' (first | with_reducible refine Row.drawn ?_ | with_reducible exact Row.freshAt _ _ _ _ _ _ (by simp) rfl rfl | (with_reducible refine Row.up ?_ (fresh_below _ _)) | (with_reducible refine Row.up ?_ (by with_reducible assumption)))))).mono ?_)
    rintro e w2 ⟨rfl, b2⟩
    have d2 := Cells.up d1 (fresh_below _ _) b2
    replace b2 : Below w.heap.size w w2 := bstep (bstep (bstep (fresh_below _ _) (fresh_below _ _)) (fresh_below _ _)) b2
    have d3 := Cells.below (fresh_below w2 (.cells #[.int .u8 l, .int .u8 p] 5)) d2
    have b3 : Below w.heap.size w (w2.alloc (.cells #[.int .u8 l, .int .u8 p] 5)) := bstep b2 (fresh_below _ _)
    obtain ⟨xd2_0, xd2_1, xd2_2, xd2_3, xd2_4, xd2_5, xd2_6, xd2_7⟩ := d2.x8
    obtain ⟨yd2_0, yd2_1, yd2_2, yd2_3, yd2_4, yd2_5, yd2_6, yd2_7⟩ := d2.y8
    obtain ⟨xd3_0, xd3_1, xd3_2, xd3_3, xd3_4, xd3_5, xd3_6, xd3_7⟩ := d3.x8
    obtain ⟨yd3_0, yd3_1, yd3_2, yd3_3, yd3_4, yd3_5, yd3_6, yd3_7⟩ := d3.y8
    go_wp2_with fail
    clear xd0_0 xd0_1 xd0_2 xd0_3 xd0_4 xd0_5 xd0_6 xd0_7 xd1_0 xd1_1 xd1_2 xd1_3 xd1_4 xd1_5 xd1_6 xd1_7 d0 d1
    generalize (w2.alloc (.cells #[.int .u8 l, .int .u8 p] 5)) = w3 at *
    have SK := hide (fun (zX zY : World) (zh : (Below w.heap.size w zX ∧ zX.cell? ⟨w.heap.size, 5, none⟩ = some (.int .u32 s) ∧ zX.cell? ⟨w.heap.size, 6, none⟩ = some (.int .u32 d) ∧ zX.cell? ⟨w.heap.size, 7, none⟩ = some (.string o) ∧ True)) (zb : Below zX.heap.size zX zY) => (show (Below w.heap.size w zY ∧ zY.cell? ⟨w.heap.size, 5, none⟩ = some (.int .u32 s) ∧ zY.cell? ⟨w.heap.size, 6, none⟩ = some (.int .u32 d) ∧ zY.cell? ⟨w.heap.size, 7, none⟩ = some (.string o) ∧ True) from ⟨bstep zh.1 zb, cellAt zb zh.2.1, cellAt zb zh.2.2.1, cellAt zb zh.2.2.2.1, trivial⟩))
    have FS := hide (fun (zX : World) (zh : (Below w.heap.size w zX ∧ zX.cell? ⟨w.heap.size, 5, none⟩ = some (.int .u32 s) ∧ zX.cell? ⟨w.heap.size, 6, none⟩ = some (.int .u32 d) ∧ zX.cell? ⟨w.heap.size, 7, none⟩ = some (.string o) ∧ True)) => zh.1)
    have GS := hide (fun (zX : World) (zh : (Below w.heap.size w zX ∧ zX.cell? ⟨w.heap.size, 5, none⟩ = some (.int .u32 s) ∧ zX.cell? ⟨w.heap.size, 6, none⟩ = some (.int .u32 d) ∧ zX.cell? ⟨w.heap.size, 7, none⟩ = some (.string o) ∧ True)) => zh)
    have hS0 : (Below w.heap.size w w3 ∧ w3.cell? ⟨w.heap.size, 5, none⟩ = some (.int .u32 s) ∧ w3.cell? ⟨w.heap.size, 6, none⟩ = some (.int .u32 d) ∧ w3.cell? ⟨w.heap.size, 7, none⟩ = some (.string o) ∧ True) := ⟨(by (repeat' (first | with_reducible exact b3 | with_reducible exact Below.refl _ _ | with_reducible refine Below.setCell ?_ (by first | exact Nat.le_refl _ | (dsimp only; omega)) _ | with_reducible refine bstep ?_ (fresh_below _ _) | with_reducible refine Below.drew ?_))), d3.at_ 5, d3.at_ 6, d3.at_ 7, trivial⟩
    go_region_held_law (fun w' => (Below w.heap.size w w' ∧ w'.cell? ⟨w.heap.size, 5, none⟩ = some (.int .u32 s) ∧ w'.cell? ⟨w.heap.size, 6, none⟩ = some (.int .u32 d) ∧ w'.cell? ⟨w.heap.size, 7, none⟩ = some (.string o) ∧ True)) (first | assumption | exact SK.out _ _ hS0 (Below.refl _ _).drew | exact SK.out _ _ hS0 (fresh_below _ _).drew | exact SK.out _ _ (by assumption) (fresh_below _ _) | (refine SK.out _ _ ?_ (by assumption); assumption))
      (first | (go_at_call 118; (with_reducible refine (F2.out _).mono ?_); rintro e wq ⟨rfl, bq⟩) | (go_at_call 186; (with_reducible refine (F3.out _).mono ?_); rintro e wq ⟨rfl, bq⟩) | (go_at_call 186; (with_reducible refine (F4.out _).mono ?_); rintro e wq ⟨rfl, bq⟩))
    all_goals
      have gs := GS.out _ (by assumption)
      obtain ⟨gb, g0, g1, g2, _⟩ := gs
      go_wp2
      go_ret
      exact ⟨congrArg Ending.returned (v_str HE.out), (by first | exact FS.out _ (by assumption) | exact bstep (FS.out _ (by assumption)) (fresh_below _ _) | exact bstep (bstep (FS.out _ (by assumption)) (fresh_below _ _)) (fresh_below _ _))⟩
  · have hc : c = 0 := HC.out
    subst hc
    go_enter Tryz.func130, Tryz.ntmps130
    have d0 := Cells.new w #[.int .u8 t, .int .u16 i, .bool false, .int .u8 l, .int .u8 p, .int .u32 s, .int .u32 d, .string o] 160
    have d1 := Cells.below (fresh_below (w.alloc (.cells #[.int .u8 t, .int .u16 i, .bool false, .int .u8 l, .int .u8 p, .int .u32 s, .int .u32 d, .string o] 160)) (.cells #[.int .u8 v, .int .u8 t] 5)) d0
    obtain ⟨xd0_0, xd0_1, xd0_2, xd0_3, xd0_4, xd0_5, xd0_6, xd0_7⟩ := d0.x8
    obtain ⟨yd0_0, yd0_1, yd0_2, yd0_3, yd0_4, yd0_5, yd0_6, yd0_7⟩ := d0.y8
    obtain ⟨xd1_0, xd1_1, xd1_2, xd1_3, xd1_4, xd1_5, xd1_6, xd1_7⟩ := d1.x8
    obtain ⟨yd1_0, yd1_1, yd1_2, yd1_3, yd1_4, yd1_5, yd1_6, yd1_7⟩ := d1.y8
    go_wp2_with fail
    (with_reducible refine (F1.out _ _ (by (repeat' (first | with_reducible refine Row.drawn ?_ | with_reducible exact Row.freshAt _ _ _ _ _ _ (by simp) rfl rfl | (with_reducible refine Row.up ?_ (fresh_below _ _)) | (with_reducible refine Row.up ?_ (by with_reducible assumption)))))).mono ?_)
    rintro e w2 ⟨rfl, b2⟩
    have d2 := Cells.up d1 (fresh_below _ _) b2
    replace b2 : Below w.heap.size w w2 := bstep (bstep (bstep (fresh_below _ _) (fresh_below _ _)) (fresh_below _ _)) b2
    have d3 := Cells.below (fresh_below w2 (.cells #[.int .u8 l, .int .u8 p] 5)) d2
    have b3 : Below w.heap.size w (w2.alloc (.cells #[.int .u8 l, .int .u8 p] 5)) := bstep b2 (fresh_below _ _)
    obtain ⟨xd2_0, xd2_1, xd2_2, xd2_3, xd2_4, xd2_5, xd2_6, xd2_7⟩ := d2.x8
    obtain ⟨yd2_0, yd2_1, yd2_2, yd2_3, yd2_4, yd2_5, yd2_6, yd2_7⟩ := d2.y8
    obtain ⟨xd3_0, xd3_1, xd3_2, xd3_3, xd3_4, xd3_5, xd3_6, xd3_7⟩ := d3.x8
    obtain ⟨yd3_0, yd3_1, yd3_2, yd3_3, yd3_4, yd3_5, yd3_6, yd3_7⟩ := d3.y8
    go_wp2_with fail
    clear xd0_0 xd0_1 xd0_2 xd0_3 xd0_4 xd0_5 xd0_6 xd0_7 xd1_0 xd1_1 xd1_2 xd1_3 xd1_4 xd1_5 xd1_6 xd1_7 d0 d1
    generalize (w2.alloc (.cells #[.int .u8 l, .int .u8 p] 5)) = w3 at *
    have SK := hide (fun (zX zY : World) (zh : (Below w.heap.size w zX ∧ zX.cell? ⟨w.heap.size, 5, none⟩ = some (.int .u32 s) ∧ zX.cell? ⟨w.heap.size, 6, none⟩ = some (.int .u32 d) ∧ zX.cell? ⟨w.heap.size, 7, none⟩ = some (.string o) ∧ True)) (zb : Below zX.heap.size zX zY) => (show (Below w.heap.size w zY ∧ zY.cell? ⟨w.heap.size, 5, none⟩ = some (.int .u32 s) ∧ zY.cell? ⟨w.heap.size, 6, none⟩ = some (.int .u32 d) ∧ zY.cell? ⟨w.heap.size, 7, none⟩ = some (.string o) ∧ True) from ⟨bstep zh.1 zb, cellAt zb zh.2.1, cellAt zb zh.2.2.1, cellAt zb zh.2.2.2.1, trivial⟩))
    have FS := hide (fun (zX : World) (zh : (Below w.heap.size w zX ∧ zX.cell? ⟨w.heap.size, 5, none⟩ = some (.int .u32 s) ∧ zX.cell? ⟨w.heap.size, 6, none⟩ = some (.int .u32 d) ∧ zX.cell? ⟨w.heap.size, 7, none⟩ = some (.string o) ∧ True)) => zh.1)
    have GS := hide (fun (zX : World) (zh : (Below w.heap.size w zX ∧ zX.cell? ⟨w.heap.size, 5, none⟩ = some (.int .u32 s) ∧ zX.cell? ⟨w.heap.size, 6, none⟩ = some (.int .u32 d) ∧ zX.cell? ⟨w.heap.size, 7, none⟩ = some (.string o) ∧ True)) => zh)
    have hS0 : (Below w.heap.size w w3 ∧ w3.cell? ⟨w.heap.size, 5, none⟩ = some (.int .u32 s) ∧ w3.cell? ⟨w.heap.size, 6, none⟩ = some (.int .u32 d) ∧ w3.cell? ⟨w.heap.size, 7, none⟩ = some (.string o) ∧ True) := ⟨(by (repeat' (first | with_reducible exact b3 | with_reducible exact Below.refl _ _ | with_reducible refine Below.setCell ?_ (by first | exact Nat.le_refl _ | (dsimp only; omega)) _ | with_reducible refine bstep ?_ (fresh_below _ _) | with_reducible refine Below.drew ?_))), d3.at_ 5, d3.at_ 6, d3.at_ 7, trivial⟩
    go_region_held_law (fun w' => (Below w.heap.size w w' ∧ w'.cell? ⟨w.heap.size, 5, none⟩ = some (.int .u32 s) ∧ w'.cell? ⟨w.heap.size, 6, none⟩ = some (.int .u32 d) ∧ w'.cell? ⟨w.heap.size, 7, none⟩ = some (.string o) ∧ True)) (first | assumption | exact SK.out _ _ hS0 (Below.refl _ _).drew | exact SK.out _ _ hS0 (fresh_below _ _).drew | exact SK.out _ _ (by assumption) (fresh_below _ _) | (refine SK.out _ _ ?_ (by assumption); assumption))
      (first | (go_at_call 118; (with_reducible refine (F2.out _).mono ?_); rintro e wq ⟨rfl, bq⟩) | (go_at_call 186; (with_reducible refine (F3.out _).mono ?_); rintro e wq ⟨rfl, bq⟩) | (go_at_call 186; (with_reducible refine (F4.out _).mono ?_); rintro e wq ⟨rfl, bq⟩))
    all_goals
      have gs := GS.out _ (by assumption)
      obtain ⟨gb, g0, g1, g2, _⟩ := gs
      go_wp2
      go_ret
      exact ⟨congrArg Ending.returned (v_str HE.out), (by first | exact FS.out _ (by assumption) | exact bstep (FS.out _ (by assumption)) (fresh_below _ _) | exact bstep (bstep (FS.out _ (by assumption)) (fresh_below _ _)) (fresh_below _ _))⟩
end Go.Proofs.YtilfcikhipadpaaGreatDoor
end

section
/- A header of ip and its bytes: plain facts. No walk. -/
set_option linter.unusedVariables false
namespace Go.Proofs.YtilfcikhipadpaaGreatDoor
open Go.RowKit

def ipErr (h : Hd) (p : ByteArray) : Int := if 40 < h.o.size ∨ h.o.size % 4 ≠ 0 then 2 else if 2028 < h.o.size + p.size then 4 else 0
def Hd.all (h : Hd) (p : ByteArray) : Int := 20 + (h.o.size : Int) + p.size
def Hd.sum (h : Hd) (p : ByteArray) : Int := sumL [h.bytes (h.all p) 0]
def Hd.put (h : Hd) (p : ByteArray) : List UInt8 := h.bytes (h.all p) (h.sum p) ++ L p
def ipText (h : Hd) (p : ByteArray) : ByteArray := if ipErr h p = 0 then S (h.put p) else { data := #[] }
def hdRes (s : ByteArray) : Hd := if ipWhy s = 0 then hdOf s else hdNone
def ipRest (s : ByteArray) : ByteArray := if ipWhy s = 0 then s.extract (ipOwn (L s)).toNat (ipAll (L s)).toNat else { data := #[] }

theorem ipErr_0 {h : Hd} {p : ByteArray} (e : ipErr h p = 0) : h.o.size ≤ 40 ∧ h.o.size % 4 = 0 ∧ h.o.size + p.size ≤ 2028 := by
  unfold ipErr at e
  by_cases h1 : 40 < h.o.size ∨ h.o.size % 4 ≠ 0
  · rw [if_pos h1] at e; omega
  rw [if_neg h1] at e
  by_cases h2 : 2028 < h.o.size + p.size
  · rw [if_pos h2] at e; omega
  omega
theorem Hd.bytes_is (h : Hd) (z m : Int) : h.bytes z m = byt (((64 + (20 + (h.o.size : Int)) / 4) * 256 + h.t) / 256) :: byt ((64 + (20 + (h.o.size : Int)) / 4) * 256 + h.t) :: byt (z / 256) :: byt z :: byt (h.i / 256) :: byt h.i :: byt (h.cut / 256) :: byt h.cut :: byt ((h.l * 256 + h.p) / 256) :: byt (h.l * 256 + h.p) :: byt (m / 256) :: byt m
    :: byt (h.s / 65536 / 256) :: byt (h.s / 65536) :: byt (h.s % 65536 / 256) :: byt (h.s % 65536) :: byt (h.d / 65536 / 256) :: byt (h.d / 65536) :: byt (h.d % 65536 / 256) :: byt (h.d % 65536) :: L h.o := by
  unfold Hd.bytes Hd.words
  simp only [putW, List.flatMap_cons, List.flatMap_nil, List.append_assoc, List.append_nil]
  rfl
theorem Hd.bytes_length (h : Hd) (z m : Int) : (h.bytes z m).length = 20 + h.o.size := by rw [h.bytes_is]; simp only [List.length_cons, L_length]; omega
theorem ipWhy_0 {s : ByteArray} (e : ipWhy s = 0) : 20 ≤ s.size ∧ at_ (L s) 0 / 16 = 4 ∧ ipFits s = true ∧ holds [(L s).take (ipOwn (L s)).toNat] = true ∧ (get16 (L s) 6 = 0 ∨ get16 (L s) 6 = 16384) := by
  unfold ipWhy at e
  by_cases h1 : s.size < 20
  · rw [if_pos h1] at e; omega
  rw [if_neg h1] at e
  by_cases h2 : at_ (L s) 0 / 16 ≠ 4
  · rw [if_pos h2] at e; omega
  rw [if_neg h2] at e
  by_cases h3 : ipFits s = false
  · rw [if_pos h3] at e; omega
  rw [if_neg h3] at e
  by_cases h4 : holds [(L s).take (ipOwn (L s)).toNat] = false
  · rw [if_pos h4] at e; omega
  rw [if_neg h4] at e
  by_cases h5 : get16 (L s) 6 ≠ 0 ∧ get16 (L s) 6 ≠ 16384
  · rw [if_pos h5] at e; omega
  exact ⟨by omega, by omega, by simpa using h3, by simpa using h4, by omega⟩

end Go.Proofs.YtilfcikhipadpaaGreatDoor
end
