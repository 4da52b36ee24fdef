/- Several texts of this claim, one behind the other. -/
import Derived.Test.YtedfdphapcanoaaGreatDoorM29

section
/- ip.Parse over this program, of what stands in order but may not hold. -/
set_option linter.unusedVariables false
set_option linter.unusedSimpArgs false
namespace Go.Proofs.YtedfdphapcanoaaGreatDoor
open Go.RowKit
attribute [local go_sem] Oper.semAt_some

set_option maxHeartbeats 1000000 in
theorem i_Parse_4 (s : ByteArray) (w : World) (hs : s.size ≤ 140737488351232) (h : 20 ≤ s.size) (h2 : at_ (L s) 0 / 16 = 4) (h3 : ipFits s = true) (h4 : holds [(L s).take (ipOwn (L s)).toNat] = false) :
    Calls Tryz.prog 55 #[.string s] w (Ret (.tuple #[hdZero, .string { data := #[] }, .int .i64 4]) w) := by
  have q2 : ¬ (s.size : Int) < 20 := by omega
  have e0 : (((s[0]'(by omega)).toNat : Nat) : Int) = at_ (L s) 0 := by rw [getElem_L s 0 (by omega)]; rfl
  have hb := at_bd (L s) 0
  have i4 : (0 : Int) < (s.size : Int) := by omega
  have i5 : 0 < s.size := by omega
  have c1 := fun w => i_lengths s w hs h
  rw [h3] at c1
  have f0 : 20 ≤ ipOwn (L s) ∧ ipOwn (L s) ≤ ipAll (L s) ∧ ipAll (L s) ≤ s.size ∧ ipAll (L s) ≤ 2048 := by unfold ipFits at h3; simpa [and_assoc] using h3
  have c2 := fun W => Holds (some ⟨W.heap.size, 0, none⟩) 1 1 [s.extract 0 (ipOwn (L s)).toNat] (W.alloc (.cells #[.string (s.extract 0 (ipOwn (L s)).toNat)] 9)) (Row.freshAt W #[.string (s.extract 0 (ipOwn (L s)).toNat)] 9 W.heap.size _ _ rfl rfl rfl) (by
      intro x hx
      simp only [List.mem_cons, List.not_mem_nil, or_false] at hx
      subst hx
      rw [ByteArray.size_extract]; omega) (by omega)
  rw [show [s.extract 0 (ipOwn (L s)).toNat].map L = [(L s).take (ipOwn (L s)).toNat] from by rw [← L_to]; rfl, h4] at c2
  obtain ⟨y, hy⟩ : ∃ y, y = ipOwn (L s) := ⟨_, rfl⟩
  obtain ⟨z, hz⟩ : ∃ z, z = ipAll (L s) := ⟨_, rfl⟩
  obtain ⟨x, hx⟩ : ∃ x, x = at_ (L s) 0 := ⟨_, rfl⟩
  rw [← hx] at e0 hb h2
  have m1 : (x / 16 != 4) = false := by simpa using h2
  have m2 : (x / 16 == 4) = true := by simpa using h2
  rw [← hy, ← hz] at c1 f0
  rw [← hy] at c2
  obtain ⟨f1, f2, f3, f4⟩ := f0
  have y0 : (0 : Int) ≤ y := by omega
  have y1 : y ≤ (s.size : Int) := by omega
  have C1 := hide c1; have C2 := hide c2
  clear c1 c2 hx hy hz h2 h3 h4
  unfold hdZero
  go_enter Tryz.func55, Tryz.ntmps55
  have d0 := Cells.new w #[.int .u8 0, .int .u16 0, .bool false, .int .u8 0, .int .u8 0, .int .u32 0, .int .u32 0, .string { data := #[] }] 127
  go_wp2_with fail
  (with_reducible refine (C1.out _).mono ?_)
  rintro e w1 ⟨rfl, n1, rfl⟩
  have d1 : Cells ((w.alloc (.cells #[.int .u8 0, .int .u16 0, .bool false, .int .u8 0, .int .u8 0, .int .u32 0, .int .u32 0, .string { data := #[] }] 127)).drewN n1) w.heap.size #[.int .u8 0, .int .u16 0, .bool false, .int .u8 0, .int .u8 0, .int .u32 0, .int .u32 0, .string { data := #[] }] 127 := d0
  have b1 : Below w.heap.size w ((w.alloc (.cells #[.int .u8 0, .int .u16 0, .bool false, .int .u8 0, .int .u8 0, .int .u32 0, .int .u32 0, .string { data := #[] }] 127)).drewN n1) := below_drewN (fresh_below _ _) n1
  clear d0
  generalize ((w.alloc (.cells #[.int .u8 0, .int .u16 0, .bool false, .int .u8 0, .int .u8 0, .int .u32 0, .int .u32 0, .string { data := #[] }] 127)).drewN n1) = w1 at *
  go_wp2_with fail
  (with_reducible refine (C2.out _).mono ?_)
  rintro e w2 ⟨rfl, b2⟩
  have d2 := Cells.up d1 (fresh_below _ _) b2
  replace b2 : Below w.heap.size w w2 := bstep (bstep b1 (fresh_below _ _)) b2
  clear d1 b1
  have xd2_0 : w2.cell? ⟨w.heap.size, 0, none⟩ = some (.int .u8 0) := d2.at_ 0
  have xd2_1 : w2.cell? ⟨w.heap.size, 1, none⟩ = some (.int .u16 0) := d2.at_ 1
  have xd2_2 : w2.cell? ⟨w.heap.size, 2, none⟩ = some (.bool false) := d2.at_ 2
  have xd2_3 : w2.cell? ⟨w.heap.size, 3, none⟩ = some (.int .u8 0) := d2.at_ 3
  have xd2_4 : w2.cell? ⟨w.heap.size, 4, none⟩ = some (.int .u8 0) := d2.at_ 4
  have xd2_5 : w2.cell? ⟨w.heap.size, 5, none⟩ = some (.int .u32 0) := d2.at_ 5
  have xd2_6 : w2.cell? ⟨w.heap.size, 6, none⟩ = some (.int .u32 0) := d2.at_ 6
  have xd2_7 : w2.cell? ⟨w.heap.size, 7, none⟩ = some (.string { data := #[] }) := d2.at_ 7
  have yd2_0 : w2.frozen? ⟨w.heap.size, 0, none⟩ = false := d2.free 0
  have yd2_1 : w2.frozen? ⟨w.heap.size, 1, none⟩ = false := d2.free 1
  have yd2_2 : w2.frozen? ⟨w.heap.size, 2, none⟩ = false := d2.free 2
  have yd2_3 : w2.frozen? ⟨w.heap.size, 3, none⟩ = false := d2.free 3
  have yd2_4 : w2.frozen? ⟨w.heap.size, 4, none⟩ = false := d2.free 4
  have yd2_5 : w2.frozen? ⟨w.heap.size, 5, none⟩ = false := d2.free 5
  have yd2_6 : w2.frozen? ⟨w.heap.size, 6, none⟩ = false := d2.free 6
  have yd2_7 : w2.frozen? ⟨w.heap.size, 7, none⟩ = false := d2.free 7
  go_wp2_with fail
  have r5 := (Cells.put8 d2 (.int .u8 0) (.int .u16 0) (.bool false) (.int .u8 0) (.int .u8 0) (.int .u32 0) (.int .u32 0) (.string { data := #[] }))
  have b5 := (Below.put8 b2 (b := w.heap.size) (by first | exact Nat.le_refl _ | omega) (.int .u8 0) (.int .u16 0) (.bool false) (.int .u8 0) (.int .u8 0) (.int .u32 0) (.int .u32 0) (.string { data := #[] }))
  have HR5 := hide r5; have HB5 := hide b5
  clear r5 b5 d2
  generalize ((((((((w2.setCell ⟨w.heap.size, 0, none⟩ (.int .u8 0)).setCell ⟨w.heap.size, 1, none⟩ (.int .u16 0)).setCell ⟨w.heap.size, 2, none⟩ (.bool false)).setCell ⟨w.heap.size, 3, none⟩ (.int .u8 0)).setCell ⟨w.heap.size, 4, none⟩ (.int .u8 0)).setCell ⟨w.heap.size, 5, none⟩ (.int .u32 0)).setCell ⟨w.heap.size, 6, none⟩ (.int .u32 0)).setCell ⟨w.heap.size, 7, none⟩ (.string { data := #[] })) = W5 at *
  have r5 := HR5.out; have b5 := HB5.out
  clear HR5 HB5
  have xr5_0 : W5.cell? ⟨w.heap.size, 0, none⟩ = some (.int .u8 0) := r5.at_ 0
  have xr5_1 : W5.cell? ⟨w.heap.size, 1, none⟩ = some (.int .u16 0) := r5.at_ 1
  have xr5_2 : W5.cell? ⟨w.heap.size, 2, none⟩ = some (.bool false) := r5.at_ 2
  have xr5_3 : W5.cell? ⟨w.heap.size, 3, none⟩ = some (.int .u8 0) := r5.at_ 3
  have xr5_4 : W5.cell? ⟨w.heap.size, 4, none⟩ = some (.int .u8 0) := r5.at_ 4
  have xr5_5 : W5.cell? ⟨w.heap.size, 5, none⟩ = some (.int .u32 0) := r5.at_ 5
  have xr5_6 : W5.cell? ⟨w.heap.size, 6, none⟩ = some (.int .u32 0) := r5.at_ 6
  have xr5_7 : W5.cell? ⟨w.heap.size, 7, none⟩ = some (.string { data := #[] }) := r5.at_ 7
  (try simp only [Exit.inBlock, Exit.then]); refine bodyPost_ret (by simp [results, Tryz.results55, go_sem, *]; try rfl) rfl ?_
  exact ⟨rfl, b5⟩

/-- what a packet's header tells -/
def hdOf (s : ByteArray) : Hd := ⟨at_ (L s) 1, get16 (L s) 4, decide (get16 (L s) 6 = 16384), at_ (L s) 8, at_ (L s) 9, get32 (L s) 12, get32 (L s) 16, s.extract 20 (ipOwn (L s)).toNat⟩

set_option maxRecDepth 100000 in
set_option maxHeartbeats 2000000 in
theorem i_Parse_5 (s : ByteArray) (w : World) (hs : s.size ≤ 140737488351232) (h : 20 ≤ s.size) (h2 : at_ (L s) 0 / 16 = 4) (h3 : ipFits s = true) (h4 : holds [(L s).take (ipOwn (L s)).toNat] = true) :
    Calls Tryz.prog 55 #[.string s] w (Ret (if get16 (L s) 6 ≠ 0 ∧ get16 (L s) 6 ≠ 16384 then .tuple #[hdZero, .string { data := #[] }, .int .i64 5] else .tuple #[.agg (hdOf s).cells, .string (s.extract (ipOwn (L s)).toNat (ipAll (L s)).toNat), .int .i64 0]) w) := by
  have q2 : ¬ (s.size : Int) < 20 := by omega
  have e0 : (((s[0]'(by omega)).toNat : Nat) : Int) = at_ (L s) 0 := by rw [getElem_L s 0 (by omega)]; rfl
  have hb := at_bd (L s) 0
  have i4 : (0 : Int) < (s.size : Int) := by omega
  have i5 : 0 < s.size := by omega
  have c1 := fun w => i_lengths s w hs h
  rw [h3] at c1
  have f0 : 20 ≤ ipOwn (L s) ∧ ipOwn (L s) ≤ ipAll (L s) ∧ ipAll (L s) ≤ s.size ∧ ipAll (L s) ≤ 2048 := by unfold ipFits at h3; simpa [and_assoc] using h3
  have c2 := fun W => Holds (some ⟨W.heap.size, 0, none⟩) 1 1 [s.extract 0 (ipOwn (L s)).toNat] (W.alloc (.cells #[.string (s.extract 0 (ipOwn (L s)).toNat)] 9)) (Row.freshAt W #[.string (s.extract 0 (ipOwn (L s)).toNat)] 9 W.heap.size _ _ rfl rfl rfl) (by
      intro x hx
      simp only [List.mem_cons, List.not_mem_nil, or_false] at hx
      subst hx
      rw [ByteArray.size_extract]; omega) (by omega)
  rw [show [s.extract 0 (ipOwn (L s)).toNat].map L = [(L s).take (ipOwn (L s)).toNat] from by rw [← L_to]; rfl, h4] at c2
  have i1 : (1 : Int) < (s.size : Int) := by omega
  have i1' : 1 < s.size := by omega
  have i8 : (8 : Int) < (s.size : Int) := by omega
  have i8' : 8 < s.size := by omega
  have i9 : (9 : Int) < (s.size : Int) := by omega
  have i9' : 9 < s.size := by omega
  have e1 : (((s[1]'(by omega)).toNat : Nat) : Int) = at_ (L s) 1 := by rw [getElem_L s 1 (by omega)]; rfl
  have e8 : (((s[8]'(by omega)).toNat : Nat) : Int) = at_ (L s) 8 := by rw [getElem_L s 8 (by omega)]; rfl
  have e9 : (((s[9]'(by omega)).toNat : Nat) : Int) = at_ (L s) 9 := by rw [getElem_L s 9 (by omega)]; rfl
  have c3 := fun W => i_two s 4 W (by unfold maxLen; omega) (by omega)
  have c4 := fun W => i_addr s 12 W (by unfold maxLen; omega) (by omega)
  have c5 := fun W => i_addr s 16 W (by unfold maxLen; omega) (by omega)
  have c6 := fun W => i_two s 6 W (by unfold maxLen; omega) (by omega)
  rw [show ((4 : Nat) : Int) = 4 from rfl] at c3
  rw [show ((12 : Nat) : Int) = 12 from rfl] at c4
  rw [show ((16 : Nat) : Int) = 16 from rfl] at c5
  rw [show ((6 : Nat) : Int) = 6 from rfl] at c6
  unfold Hd.cells hdOf
  obtain ⟨v1, hv1⟩ : ∃ v, v = at_ (L s) 1 := ⟨_, rfl⟩
  obtain ⟨v2, hv2⟩ : ∃ v, v = get16 (L s) 4 := ⟨_, rfl⟩
  obtain ⟨v3, hv3⟩ : ∃ v, v = at_ (L s) 8 := ⟨_, rfl⟩
  obtain ⟨v4, hv4⟩ : ∃ v, v = at_ (L s) 9 := ⟨_, rfl⟩
  obtain ⟨v5, hv5⟩ : ∃ v, v = get32 (L s) 12 := ⟨_, rfl⟩
  obtain ⟨v6, hv6⟩ : ∃ v, v = get32 (L s) 16 := ⟨_, rfl⟩
  obtain ⟨v7, hv7⟩ : ∃ v, v = get16 (L s) 6 := ⟨_, rfl⟩
  simp only [← hv1, ← hv2, ← hv3, ← hv4, ← hv5, ← hv6, ← hv7] at c3 c4 c5 c6 e1 e8 e9 ⊢
  obtain ⟨y, hy⟩ : ∃ y, y = ipOwn (L s) := ⟨_, rfl⟩
  obtain ⟨z, hz⟩ : ∃ z, z = ipAll (L s) := ⟨_, rfl⟩
  obtain ⟨x, hx⟩ : ∃ x, x = at_ (L s) 0 := ⟨_, rfl⟩
  rw [← hx] at e0 hb h2
  have m1 : (x / 16 != 4) = false := by simpa using h2
  have m2 : (x / 16 == 4) = true := by simpa using h2
  rw [← hy, ← hz] at c1 f0 ⊢
  rw [← hy] at c2
  obtain ⟨f1, f2, f3, f4⟩ := f0
  have y0 : (0 : Int) ≤ y := by omega
  have y1 : y ≤ (s.size : Int) := by omega
  obtain ⟨rv, hrv⟩ : ∃ rv, rv = (if v7 ≠ 0 ∧ v7 ≠ 16384 then Value.tuple #[hdZero, .string { data := #[] }, .int .i64 5] else .tuple #[.agg #[.int .u8 v1, .int .u16 v2, .bool (decide (v7 = 16384)), .int .u8 v3, .int .u8 v4, .int .u32 v5, .int .u32 v6, .string (s.extract 20 y.toNat)], .string (s.extract y.toNat z.toNat), .int .i64 0]) := ⟨_, rfl⟩
  rw [← hrv]
  have HRV := hide hrv
  have C1 := hide c1; have C2 := hide c2
  have C3 := hide c3; have C4 := hide c4; have C5 := hide c5; have C6 := hide c6
  clear c1 c2 c3 c4 c5 c6 hx hy hz h2 h3 h4 hv1 hv2 hv3 hv4 hv5 hv6 hv7 hrv
  go_enter Tryz.func55, Tryz.ntmps55
  have d0 := Cells.new w #[.int .u8 0, .int .u16 0, .bool false, .int .u8 0, .int .u8 0, .int .u32 0, .int .u32 0, .string { data := #[] }] 127
  go_wp2_with fail
  (with_reducible refine (C1.out _).mono ?_)
  rintro e w1 ⟨rfl, n1, rfl⟩
  have d1 : Cells ((w.alloc (.cells #[.int .u8 0, .int .u16 0, .bool false, .int .u8 0, .int .u8 0, .int .u32 0, .int .u32 0, .string { data := #[] }] 127)).drewN n1) w.heap.size #[.int .u8 0, .int .u16 0, .bool false, .int .u8 0, .int .u8 0, .int .u32 0, .int .u32 0, .string { data := #[] }] 127 := d0
  have b1 : Below w.heap.size w ((w.alloc (.cells #[.int .u8 0, .int .u16 0, .bool false, .int .u8 0, .int .u8 0, .int .u32 0, .int .u32 0, .string { data := #[] }] 127)).drewN n1) := below_drewN (fresh_below _ _) n1
  clear d0
  generalize ((w.alloc (.cells #[.int .u8 0, .int .u16 0, .bool false, .int .u8 0, .int .u8 0, .int .u32 0, .int .u32 0, .string { data := #[] }] 127)).drewN n1) = w1 at *
  go_wp2_with fail
  (with_reducible refine (C2.out _).mono ?_)
  rintro e w2 ⟨rfl, b2⟩
  have d2 := Cells.up d1 (fresh_below _ _) b2
  replace b2 : Below w.heap.size w w2 := bstep (bstep b1 (fresh_below _ _)) b2
  clear d1 b1
  have z2 : w.heap.size < w2.heap.size := d2.lt
  go_wp2_with fail
  refine' shareW (G := _) (A := fun X => Below w.heap.size w X ∧ Cells X w.heap.size #[.int .u8 0, .int .u16 0, .bool false, .int .u8 0, .int .u8 0, .int .u32 0, .int .u32 0, .string { data := #[] }] 127 ∧ Cells X w2.heap.size #[.int .u8 v1, .int .u16 v2, .bool false, .int .u8 v3, .int .u8 v4, .int .u32 v5, .int .u32 v6, .string (s.extract 20 y.toNat)] 127) (fun key => ?main) ?rest
  case main =>
    have hz0 : ∀ n, ((w2.drewN n).alloc (.cells #[.int .u8 0, .int .u16 0, .bool false, .int .u8 0, .int .u8 0, .int .u32 0, .int .u32 0, .string { data := #[] }] 127)).cell? ⟨w2.heap.size, 0, none⟩ = some (.int .u8 0) := fun n => (Cells.new w2 #[.int .u8 0, .int .u16 0, .bool false, .int .u8 0, .int .u8 0, .int .u32 0, .int .u32 0, .string { data := #[] }] 127).at_ 0
    have hf0 : ∀ n, ((w2.drewN n).alloc (.cells #[.int .u8 0, .int .u16 0, .bool false, .int .u8 0, .int .u8 0, .int .u32 0, .int .u32 0, .string { data := #[] }] 127)).frozen? ⟨w2.heap.size, 0, none⟩ = false := fun n => (Cells.new w2 #[.int .u8 0, .int .u16 0, .bool false, .int .u8 0, .int .u8 0, .int .u32 0, .int .u32 0, .string { data := #[] }] 127).free 0
    have hz1 : ∀ n, ((w2.drewN n).alloc (.cells #[.int .u8 0, .int .u16 0, .bool false, .int .u8 0, .int .u8 0, .int .u32 0, .int .u32 0, .string { data := #[] }] 127)).cell? ⟨w2.heap.size, 1, none⟩ = some (.int .u16 0) := fun n => (Cells.new w2 #[.int .u8 0, .int .u16 0, .bool false, .int .u8 0, .int .u8 0, .int .u32 0, .int .u32 0, .string { data := #[] }] 127).at_ 1
    have hf1 : ∀ n, ((w2.drewN n).alloc (.cells #[.int .u8 0, .int .u16 0, .bool false, .int .u8 0, .int .u8 0, .int .u32 0, .int .u32 0, .string { data := #[] }] 127)).frozen? ⟨w2.heap.size, 1, none⟩ = false := fun n => (Cells.new w2 #[.int .u8 0, .int .u16 0, .bool false, .int .u8 0, .int .u8 0, .int .u32 0, .int .u32 0, .string { data := #[] }] 127).free 1
    have hz2 : ∀ n, ((w2.drewN n).alloc (.cells #[.int .u8 0, .int .u16 0, .bool false, .int .u8 0, .int .u8 0, .int .u32 0, .int .u32 0, .string { data := #[] }] 127)).cell? ⟨w2.heap.size, 2, none⟩ = some (.bool false) := fun n => (Cells.new w2 #[.int .u8 0, .int .u16 0, .bool false, .int .u8 0, .int .u8 0, .int .u32 0, .int .u32 0, .string { data := #[] }] 127).at_ 2
    have hf2 : ∀ n, ((w2.drewN n).alloc (.cells #[.int .u8 0, .int .u16 0, .bool false, .int .u8 0, .int .u8 0, .int .u32 0, .int .u32 0, .string { data := #[] }] 127)).frozen? ⟨w2.heap.size, 2, none⟩ = false := fun n => (Cells.new w2 #[.int .u8 0, .int .u16 0, .bool false, .int .u8 0, .int .u8 0, .int .u32 0, .int .u32 0, .string { data := #[] }] 127).free 2
    have hz3 : ∀ n, ((w2.drewN n).alloc (.cells #[.int .u8 0, .int .u16 0, .bool false, .int .u8 0, .int .u8 0, .int .u32 0, .int .u32 0, .string { data := #[] }] 127)).cell? ⟨w2.heap.size, 3, none⟩ = some (.int .u8 0) := fun n => (Cells.new w2 #[.int .u8 0, .int .u16 0, .bool false, .int .u8 0, .int .u8 0, .int .u32 0, .int .u32 0, .string { data := #[] }] 127).at_ 3
    have hf3 : ∀ n, ((w2.drewN n).alloc (.cells #[.int .u8 0, .int .u16 0, .bool false, .int .u8 0, .int .u8 0, .int .u32 0, .int .u32 0, .string { data := #[] }] 127)).frozen? ⟨w2.heap.size, 3, none⟩ = false := fun n => (Cells.new w2 #[.int .u8 0, .int .u16 0, .bool false, .int .u8 0, .int .u8 0, .int .u32 0, .int .u32 0, .string { data := #[] }] 127).free 3
    have hz4 : ∀ n, ((w2.drewN n).alloc (.cells #[.int .u8 0, .int .u16 0, .bool false, .int .u8 0, .int .u8 0, .int .u32 0, .int .u32 0, .string { data := #[] }] 127)).cell? ⟨w2.heap.size, 4, none⟩ = some (.int .u8 0) := fun n => (Cells.new w2 #[.int .u8 0, .int .u16 0, .bool false, .int .u8 0, .int .u8 0, .int .u32 0, .int .u32 0, .string { data := #[] }] 127).at_ 4
    have hf4 : ∀ n, ((w2.drewN n).alloc (.cells #[.int .u8 0, .int .u16 0, .bool false, .int .u8 0, .int .u8 0, .int .u32 0, .int .u32 0, .string { data := #[] }] 127)).frozen? ⟨w2.heap.size, 4, none⟩ = false := fun n => (Cells.new w2 #[.int .u8 0, .int .u16 0, .bool false, .int .u8 0, .int .u8 0, .int .u32 0, .int .u32 0, .string { data := #[] }] 127).free 4
    have hz5 : ∀ n, ((w2.drewN n).alloc (.cells #[.int .u8 0, .int .u16 0, .bool false, .int .u8 0, .int .u8 0, .int .u32 0, .int .u32 0, .string { data := #[] }] 127)).cell? ⟨w2.heap.size, 5, none⟩ = some (.int .u32 0) := fun n => (Cells.new w2 #[.int .u8 0, .int .u16 0, .bool false, .int .u8 0, .int .u8 0, .int .u32 0, .int .u32 0, .string { data := #[] }] 127).at_ 5
    have hf5 : ∀ n, ((w2.drewN n).alloc (.cells #[.int .u8 0, .int .u16 0, .bool false, .int .u8 0, .int .u8 0, .int .u32 0, .int .u32 0, .string { data := #[] }] 127)).frozen? ⟨w2.heap.size, 5, none⟩ = false := fun n => (Cells.new w2 #[.int .u8 0, .int .u16 0, .bool false, .int .u8 0, .int .u8 0, .int .u32 0, .int .u32 0, .string { data := #[] }] 127).free 5
    have hz6 : ∀ n, ((w2.drewN n).alloc (.cells #[.int .u8 0, .int .u16 0, .bool false, .int .u8 0, .int .u8 0, .int .u32 0, .int .u32 0, .string { data := #[] }] 127)).cell? ⟨w2.heap.size, 6, none⟩ = some (.int .u32 0) := fun n => (Cells.new w2 #[.int .u8 0, .int .u16 0, .bool false, .int .u8 0, .int .u8 0, .int .u32 0, .int .u32 0, .string { data := #[] }] 127).at_ 6
    have hf6 : ∀ n, ((w2.drewN n).alloc (.cells #[.int .u8 0, .int .u16 0, .bool false, .int .u8 0, .int .u8 0, .int .u32 0, .int .u32 0, .string { data := #[] }] 127)).frozen? ⟨w2.heap.size, 6, none⟩ = false := fun n => (Cells.new w2 #[.int .u8 0, .int .u16 0, .bool false, .int .u8 0, .int .u8 0, .int .u32 0, .int .u32 0, .string { data := #[] }] 127).free 6
    have hz7 : ∀ n, ((w2.drewN n).alloc (.cells #[.int .u8 0, .int .u16 0, .bool false, .int .u8 0, .int .u8 0, .int .u32 0, .int .u32 0, .string { data := #[] }] 127)).cell? ⟨w2.heap.size, 7, none⟩ = some (.string { data := #[] }) := fun n => (Cells.new w2 #[.int .u8 0, .int .u16 0, .bool false, .int .u8 0, .int .u8 0, .int .u32 0, .int .u32 0, .string { data := #[] }] 127).at_ 7
    have hf7 : ∀ n, ((w2.drewN n).alloc (.cells #[.int .u8 0, .int .u16 0, .bool false, .int .u8 0, .int .u8 0, .int .u32 0, .int .u32 0, .string { data := #[] }] 127)).frozen? ⟨w2.heap.size, 7, none⟩ = false := fun n => (Cells.new w2 #[.int .u8 0, .int .u16 0, .bool false, .int .u8 0, .int .u8 0, .int .u32 0, .int .u32 0, .string { data := #[] }] 127).free 7
    have hN : ∀ n, Cells ((w2.drewN n).alloc (.cells #[.int .u8 0, .int .u16 0, .bool false, .int .u8 0, .int .u8 0, .int .u32 0, .int .u32 0, .string { data := #[] }] 127)) w2.heap.size #[.int .u8 0, .int .u16 0, .bool false, .int .u8 0, .int .u8 0, .int .u32 0, .int .u32 0, .string { data := #[] }] 127 := fun n => Cells.new w2 _ _
    have hR : ∀ n, Cells ((w2.drewN n).alloc (.cells #[.int .u8 0, .int .u16 0, .bool false, .int .u8 0, .int .u8 0, .int .u32 0, .int .u32 0, .string { data := #[] }] 127)) w.heap.size #[.int .u8 0, .int .u16 0, .bool false, .int .u8 0, .int .u8 0, .int .u32 0, .int .u32 0, .string { data := #[] }] 127 := fun n => Cells.alloc (w := w2.drewN n) d2 _
    have hB : ∀ n, Below w.heap.size w ((w2.drewN n).alloc (.cells #[.int .u8 0, .int .u16 0, .bool false, .int .u8 0, .int .u8 0, .int .u32 0, .int .u32 0, .string { data := #[] }] 127)) := fun n => bstep (below_drewN b2 n) (fresh_below _ _)
    have hN2 : ∀ n m, Cells (((w2.drewN n).alloc (.cells #[.int .u8 0, .int .u16 0, .bool false, .int .u8 0, .int .u8 0, .int .u32 0, .int .u32 0, .string { data := #[] }] 127)).drewN m) w2.heap.size #[.int .u8 0, .int .u16 0, .bool false, .int .u8 0, .int .u8 0, .int .u32 0, .int .u32 0, .string { data := #[] }] 127 := fun n m => hN n
    have hR2 : ∀ n m, Cells (((w2.drewN n).alloc (.cells #[.int .u8 0, .int .u16 0, .bool false, .int .u8 0, .int .u8 0, .int .u32 0, .int .u32 0, .string { data := #[] }] 127)).drewN m) w.heap.size #[.int .u8 0, .int .u16 0, .bool false, .int .u8 0, .int .u8 0, .int .u32 0, .int .u32 0, .string { data := #[] }] 127 := fun n m => hR n
    have hB2 : ∀ n m, Below w.heap.size w (((w2.drewN n).alloc (.cells #[.int .u8 0, .int .u16 0, .bool false, .int .u8 0, .int .u8 0, .int .u32 0, .int .u32 0, .string { data := #[] }] 127)).drewN m) := fun n m => below_drewN (hB n) m
    refine wp_region_held_drew (S := fun _ => True) (by kernel_rfl) trivial (fun _ => ?_)
    refine wpAnyH_take (i := 0) (v := ?v0_1) rfl (by kernel_rfl) (by kernel_rfl) (by kernel_rfl) (fun _ _ _ h => h) (Or.inl (And.intro rfl ?q0_1)) trivial ?r0_1; (case q0_1 => (intro w _; (try dsimp only); (try go_simp); (try with_reducible rfl)))
    try simp only [Act.put, List.setIfInBounds_toArray, List.set_cons_zero, List.set_cons_succ]
    refine wpAnyH_take (i := 1) (v := ?v1_2) rfl (by kernel_rfl) (by kernel_rfl) (by kernel_rfl) (fun _ _ _ h => h) (Or.inl (And.intro rfl ?q1_2)) trivial ?r1_2; (case q1_2 => (intro w _; (try dsimp only); (try go_simp); (try with_reducible rfl)))
    try simp only [Act.put, List.setIfInBounds_toArray, List.set_cons_zero, List.set_cons_succ]
    refine wpAnyH_take (i := 2) (v := ?v2_3) rfl (by kernel_rfl) (by kernel_rfl) (by kernel_rfl) (fun _ _ _ h => h) (Or.inl (And.intro rfl ?q2_3)) trivial ?r2_3; (case q2_3 => (intro w _; (try dsimp only); (try go_simp); (try with_reducible rfl)))
    try simp only [Act.put, List.setIfInBounds_toArray, List.set_cons_zero, List.set_cons_succ]
    refine wpAnyH_take (i := 4) (v := ?v4_4) rfl (by kernel_rfl) (by kernel_rfl) (by kernel_rfl) (fun _ _ _ h => h) (Or.inl (And.intro rfl ?q4_4)) trivial ?r4_4; (case q4_4 => (intro w _; (try dsimp only); (try go_simp); (try with_reducible rfl)))
    try simp only [Act.put, List.setIfInBounds_toArray, List.set_cons_zero, List.set_cons_succ]
    refine wpAnyH_take (i := 5) (v := ?v5_5) rfl (by kernel_rfl) (by kernel_rfl) (by kernel_rfl) (fun _ _ _ h => h) (Or.inl (And.intro rfl ?q5_5)) trivial ?r5_5; (case q5_5 => (intro w _; (try dsimp only); (try go_simp); (try with_reducible rfl)))
    try simp only [Act.put, List.setIfInBounds_toArray, List.set_cons_zero, List.set_cons_succ]
    refine wpAnyH_take (i := 6) (v := ?v6_6) rfl (by kernel_rfl) (by kernel_rfl) (by kernel_rfl) (fun _ _ _ h => h) (Or.inl (And.intro rfl ?q6_6)) trivial ?r6_6; (case q6_6 => (intro w _; (try dsimp only); (try go_simp); (try with_reducible rfl)))
    try simp only [Act.put, List.setIfInBounds_toArray, List.set_cons_zero, List.set_cons_succ]
    refine wpAnyH_take (i := 7) (v := ?v7_7) rfl (by kernel_rfl) (by kernel_rfl) (by kernel_rfl) (fun _ _ _ h => h) (Or.inl (And.intro rfl ?q7_7)) trivial ?r7_7; (case q7_7 => (intro w _; (try dsimp only); (try go_simp); (try with_reducible rfl)))
    try simp only [Act.put, List.setIfInBounds_toArray, List.set_cons_zero, List.set_cons_succ]
    refine wpAnyH_take (i := 8) (v := ?v8_8) rfl (by kernel_rfl) (by kernel_rfl) (by kernel_rfl) (fun _ _ _ h => h) (Or.inl (And.intro rfl ?q8_8)) trivial ?r8_8; (case q8_8 => (intro w _; (try dsimp only); (try go_simp); (try with_reducible rfl)))
    try simp only [Act.put, List.setIfInBounds_toArray, List.set_cons_zero, List.set_cons_succ]
    refine wpAnyH_take (i := 10) (v := ?v10_9) rfl (by kernel_rfl) (by kernel_rfl) (by kernel_rfl) (fun _ _ _ h => h) (Or.inl (And.intro rfl ?q10_9)) trivial ?r10_9; (case q10_9 => (intro w _; (try dsimp only); (try go_simp); (try with_reducible rfl)))
    try simp only [Act.put, List.setIfInBounds_toArray, List.set_cons_zero, List.set_cons_succ]
    refine wpAnyH_take (i := 12) (v := ?v12_10) rfl (by kernel_rfl) (by kernel_rfl) (by kernel_rfl) (fun _ _ _ h => h) (Or.inl (And.intro rfl ?q12_10)) trivial ?r12_10; (case q12_10 => (intro w _; (try dsimp only); (try go_simp); (try with_reducible rfl)))
    try simp only [Act.put, List.setIfInBounds_toArray, List.set_cons_zero, List.set_cons_succ]
    refine wpAnyH_take (i := 13) (v := ?v13_11) rfl (by kernel_rfl) (by kernel_rfl) (by kernel_rfl) (fun _ _ _ h => h) (Or.inl (And.intro rfl ?q13_11)) trivial ?r13_11; (case q13_11 => (intro w _; (try dsimp only); (try go_simp); (try with_reducible rfl)))
    try simp only [Act.put, List.setIfInBounds_toArray, List.set_cons_zero, List.set_cons_succ]
    refine wpAnyH_take (i := 14) (v := ?v14_12) rfl (by kernel_rfl) (by kernel_rfl) (by kernel_rfl) (fun _ _ _ h => h) (Or.inl (And.intro rfl ?q14_12)) trivial ?r14_12; (case q14_12 => (intro w _; (try dsimp only); (try go_simp); (try with_reducible rfl)))
    try simp only [Act.put, List.setIfInBounds_toArray, List.set_cons_zero, List.set_cons_succ]
    refine wpAnyH_ready (rs := [3, 16]) (by kernel_rfl) (by simp) ?_
    refine AllReadyH.cons rfl (fun K hK => ?_) (AllReadyH.cons rfl (fun K hK => ?_) AllReadyH.nil)
    · skip
      rw [if_pos (by rfl)]
      (try simp only [List.getElem_toArray, List.getElem_cons_succ, List.getElem_cons_zero])
      go_simp
      (with_reducible refine (C3.out _).mono ?_)
      rintro e wq ⟨rfl, nq, rfl⟩
      (try rw [alloc_drewN])
      try go_wp2_with fail
      refine hK.out _ _ trivial (fun _ => ?_)
      clear hK K
      try simp only [Act.put, List.setIfInBounds_toArray, List.set_cons_zero, List.set_cons_succ]
      refine wpAnyH_ready (rs := [9, 16]) (by kernel_rfl) (by simp) ?_
      refine AllReadyH.cons rfl (fun K hK => ?_) (AllReadyH.cons rfl (fun K hK => ?_) AllReadyH.nil)
      · skip
        rw [if_pos (by rfl)]
        (try simp only [List.getElem_toArray, List.getElem_cons_succ, List.getElem_cons_zero])
        go_simp
        (with_reducible refine (C4.out _).mono ?_)
        rintro e wq ⟨rfl, nq, rfl⟩
        (try rw [alloc_drewN])
        try go_wp2_with fail
        refine hK.out _ _ trivial (fun _ => ?_)
        clear hK K
        try simp only [Act.put, List.setIfInBounds_toArray, List.set_cons_zero, List.set_cons_succ]
        refine wpAnyH_ready (rs := [11, 16]) (by kernel_rfl) (by simp) ?_
        refine AllReadyH.cons rfl (fun K hK => ?_) (AllReadyH.cons rfl (fun K hK => ?_) AllReadyH.nil)
        · skip
          rw [if_pos (by rfl)]
          (try simp only [List.getElem_toArray, List.getElem_cons_succ, List.getElem_cons_zero])
          go_simp
          (with_reducible refine (C5.out _).mono ?_)
          rintro e wq ⟨rfl, nq, rfl⟩
          (try rw [alloc_drewN])
          try go_wp2_with fail
          refine hK.out _ _ trivial (fun _ => ?_)
          clear hK K
          try simp only [Act.put, List.setIfInBounds_toArray, List.set_cons_zero, List.set_cons_succ]
          refine wpAnyH_take (i := 15) (v := ?v15_13) rfl (by kernel_rfl) (by kernel_rfl) (by kernel_rfl) (fun _ _ _ h => h) (Or.inl (And.intro rfl ?q15_13)) trivial ?r15_13; (case q15_13 => (intro w _; (try dsimp only); (try go_simp); (try with_reducible rfl)))
          try simp only [Act.put, List.setIfInBounds_toArray, List.set_cons_zero, List.set_cons_succ]
          refine wpAnyH_ready (rs := [16]) (by kernel_rfl) (by simp) ?_
          refine AllReadyH.cons rfl (fun K hK => ?_) AllReadyH.nil
          rw [if_pos (by rfl)]
          (try simp only [List.getElem_toArray, List.getElem_cons_succ, List.getElem_cons_zero])
          go_simp
          refine hK.out _ _ trivial (fun _ => ?_)
          clear hK K
          try simp only [Act.put, List.setIfInBounds_toArray, List.set_cons_zero, List.set_cons_succ]
          refine wpAnyH_ready (rs := [17]) (by kernel_rfl) (by simp) ?_
          refine AllReadyH.cons rfl (fun K hK => ?_) AllReadyH.nil
          rw [if_pos (by rfl)]
          (try simp only [List.getElem_toArray, List.getElem_cons_succ, List.getElem_cons_zero])
          go_simp
          refine hK.out _ _ trivial (fun _ => ?_)
          clear hK K
          try simp only [Act.put, List.setIfInBounds_toArray, List.set_cons_zero, List.set_cons_succ]
          refine wpAnyH_done (by kernel_rfl) ?_ _
          first | with_reducible exact key _ ⟨Below.put8 (hB _) (Nat.le_of_lt z2) (.int .u8 v1) (.int .u16 v2) (.bool false) (.int .u8 v3) (.int .u8 v4) (.int .u32 v5) (.int .u32 v6) (.string (s.extract 20 y.toNat)), Cells.far8 (hR _) (Nat.ne_of_lt z2) (.int .u8 v1) (.int .u16 v2) (.bool false) (.int .u8 v3) (.int .u8 v4) (.int .u32 v5) (.int .u32 v6) (.string (s.extract 20 y.toNat)), Cells.put8 (hN _) (.int .u8 v1) (.int .u16 v2) (.bool false) (.int .u8 v3) (.int .u8 v4) (.int .u32 v5) (.int .u32 v6) (.string (s.extract 20 y.toNat))⟩ | with_reducible exact key _ ⟨Below.put8 (hB2 _ _) (Nat.le_of_lt z2) (.int .u8 v1) (.int .u16 v2) (.bool false) (.int .u8 v3) (.int .u8 v4) (.int .u32 v5) (.int .u32 v6) (.string (s.extract 20 y.toNat)), Cells.far8 (hR2 _ _) (Nat.ne_of_lt z2) (.int .u8 v1) (.int .u16 v2) (.bool false) (.int .u8 v3) (.int .u8 v4) (.int .u32 v5) (.int .u32 v6) (.string (s.extract 20 y.toNat)), Cells.put8 (hN2 _ _) (.int .u8 v1) (.int .u16 v2) (.bool false) (.int .u8 v3) (.int .u8 v4) (.int .u32 v5) (.int .u32 v6) (.string (s.extract 20 y.toNat))⟩
        · skip
          rw [if_pos (by rfl)]
          (try simp only [List.getElem_toArray, List.getElem_cons_succ, List.getElem_cons_zero])
          go_simp
          refine hK.out _ _ trivial (fun _ => ?_)
          clear hK K
          try simp only [Act.put, List.setIfInBounds_toArray, List.set_cons_zero, List.set_cons_succ]
          refine wpAnyH_ready (rs := [11]) (by kernel_rfl) (by simp) ?_
          refine AllReadyH.cons rfl (fun K hK => ?_) AllReadyH.nil
          rw [if_pos (by rfl)]
          (try simp only [List.getElem_toArray, List.getElem_cons_succ, List.getElem_cons_zero])
          go_simp
          (with_reducible refine (C5.out _).mono ?_)
          rintro e wq ⟨rfl, nq, rfl⟩
          (try rw [alloc_drewN])
          try go_wp2_with fail
          refine hK.out _ _ trivial (fun _ => ?_)
          clear hK K
          try simp only [Act.put, List.setIfInBounds_toArray, List.set_cons_zero, List.set_cons_succ]
          refine wpAnyH_take (i := 15) (v := ?v15_14) rfl (by kernel_rfl) (by kernel_rfl) (by kernel_rfl) (fun _ _ _ h => h) (Or.inl (And.intro rfl ?q15_14)) trivial ?r15_14; (case q15_14 => (intro w _; (try dsimp only); (try go_simp); (try with_reducible rfl)))
          try simp only [Act.put, List.setIfInBounds_toArray, List.set_cons_zero, List.set_cons_succ]
          refine wpAnyH_ready (rs := [17]) (by kernel_rfl) (by simp) ?_
          refine AllReadyH.cons rfl (fun K hK => ?_) AllReadyH.nil
          rw [if_pos (by rfl)]
          (try simp only [List.getElem_toArray, List.getElem_cons_succ, List.getElem_cons_zero])
          go_simp
          refine hK.out _ _ trivial (fun _ => ?_)
          clear hK K
          try simp only [Act.put, List.setIfInBounds_toArray, List.set_cons_zero, List.set_cons_succ]
          refine wpAnyH_done (by kernel_rfl) ?_ _
          first | with_reducible exact key _ ⟨Below.put8 (hB _) (Nat.le_of_lt z2) (.int .u8 v1) (.int .u16 v2) (.bool false) (.int .u8 v3) (.int .u8 v4) (.int .u32 v5) (.int .u32 v6) (.string (s.extract 20 y.toNat)), Cells.far8 (hR _) (Nat.ne_of_lt z2) (.int .u8 v1) (.int .u16 v2) (.bool false) (.int .u8 v3) (.int .u8 v4) (.int .u32 v5) (.int .u32 v6) (.string (s.extract 20 y.toNat)), Cells.put8 (hN _) (.int .u8 v1) (.int .u16 v2) (.bool false) (.int .u8 v3) (.int .u8 v4) (.int .u32 v5) (.int .u32 v6) (.string (s.extract 20 y.toNat))⟩ | with_reducible exact key _ ⟨Below.put8 (hB2 _ _) (Nat.le_of_lt z2) (.int .u8 v1) (.int .u16 v2) (.bool false) (.int .u8 v3) (.int .u8 v4) (.int .u32 v5) (.int .u32 v6) (.string (s.extract 20 y.toNat)), Cells.far8 (hR2 _ _) (Nat.ne_of_lt z2) (.int .u8 v1) (.int .u16 v2) (.bool false) (.int .u8 v3) (.int .u8 v4) (.int .u32 v5) (.int .u32 v6) (.string (s.extract 20 y.toNat)), Cells.put8 (hN2 _ _) (.int .u8 v1) (.int .u16 v2) (.bool false) (.int .u8 v3) (.int .u8 v4) (.int .u32 v5) (.int .u32 v6) (.string (s.extract 20 y.toNat))⟩
      · skip
        rw [if_pos (by rfl)]
        (try simp only [List.getElem_toArray, List.getElem_cons_succ, List.getElem_cons_zero])
        go_simp
        refine hK.out _ _ trivial (fun _ => ?_)
        clear hK K
        try simp only [Act.put, List.setIfInBounds_toArray, List.set_cons_zero, List.set_cons_succ]
        refine wpAnyH_ready (rs := [9]) (by kernel_rfl) (by simp) ?_
        refine AllReadyH.cons rfl (fun K hK => ?_) AllReadyH.nil
        rw [if_pos (by rfl)]
        (try simp only [List.getElem_toArray, List.getElem_cons_succ, List.getElem_cons_zero])
        go_simp
        (with_reducible refine (C4.out _).mono ?_)
        rintro e wq ⟨rfl, nq, rfl⟩
        (try rw [alloc_drewN])
        try go_wp2_with fail
        refine hK.out _ _ trivial (fun _ => ?_)
        clear hK K
        try simp only [Act.put, List.setIfInBounds_toArray, List.set_cons_zero, List.set_cons_succ]
        refine wpAnyH_ready (rs := [11]) (by kernel_rfl) (by simp) ?_
        refine AllReadyH.cons rfl (fun K hK => ?_) AllReadyH.nil
        rw [if_pos (by rfl)]
        (try simp only [List.getElem_toArray, List.getElem_cons_succ, List.getElem_cons_zero])
        go_simp
        (with_reducible refine (C5.out _).mono ?_)
        rintro e wq ⟨rfl, nq, rfl⟩
        (try rw [alloc_drewN])
        try go_wp2_with fail
        refine hK.out _ _ trivial (fun _ => ?_)
        clear hK K
        try simp only [Act.put, List.setIfInBounds_toArray, List.set_cons_zero, List.set_cons_succ]
        refine wpAnyH_take (i := 15) (v := ?v15_15) rfl (by kernel_rfl) (by kernel_rfl) (by kernel_rfl) (fun _ _ _ h => h) (Or.inl (And.intro rfl ?q15_15)) trivial ?r15_15; (case q15_15 => (intro w _; (try dsimp only); (try go_simp); (try with_reducible rfl)))
        try simp only [Act.put, List.setIfInBounds_toArray, List.set_cons_zero, List.set_cons_succ]
        refine wpAnyH_ready (rs := [17]) (by kernel_rfl) (by simp) ?_
        refine AllReadyH.cons rfl (fun K hK => ?_) AllReadyH.nil
        rw [if_pos (by rfl)]
        (try simp only [List.getElem_toArray, List.getElem_cons_succ, List.getElem_cons_zero])
        go_simp
        refine hK.out _ _ trivial (fun _ => ?_)
        clear hK K
        try simp only [Act.put, List.setIfInBounds_toArray, List.set_cons_zero, List.set_cons_succ]
        refine wpAnyH_done (by kernel_rfl) ?_ _
        first | with_reducible exact key _ ⟨Below.put8 (hB _) (Nat.le_of_lt z2) (.int .u8 v1) (.int .u16 v2) (.bool false) (.int .u8 v3) (.int .u8 v4) (.int .u32 v5) (.int .u32 v6) (.string (s.extract 20 y.toNat)), Cells.far8 (hR _) (Nat.ne_of_lt z2) (.int .u8 v1) (.int .u16 v2) (.bool false) (.int .u8 v3) (.int .u8 v4) (.int .u32 v5) (.int .u32 v6) (.string (s.extract 20 y.toNat)), Cells.put8 (hN _) (.int .u8 v1) (.int .u16 v2) (.bool false) (.int .u8 v3) (.int .u8 v4) (.int .u32 v5) (.int .u32 v6) (.string (s.extract 20 y.toNat))⟩ | with_reducible exact key _ ⟨Below.put8 (hB2 _ _) (Nat.le_of_lt z2) (.int .u8 v1) (.int .u16 v2) (.bool false) (.int .u8 v3) (.int .u8 v4) (.int .u32 v5) (.int .u32 v6) (.string (s.extract 20 y.toNat)), Cells.far8 (hR2 _ _) (Nat.ne_of_lt z2) (.int .u8 v1) (.int .u16 v2) (.bool false) (.int .u8 v3) (.int .u8 v4) (.int .u32 v5) (.int .u32 v6) (.string (s.extract 20 y.toNat)), Cells.put8 (hN2 _ _) (.int .u8 v1) (.int .u16 v2) (.bool false) (.int .u8 v3) (.int .u8 v4) (.int .u32 v5) (.int .u32 v6) (.string (s.extract 20 y.toNat))⟩
    · skip
      rw [if_pos (by rfl)]
      (try simp only [List.getElem_toArray, List.getElem_cons_succ, List.getElem_cons_zero])
      go_simp
      refine hK.out _ _ trivial (fun _ => ?_)
      clear hK K
      try simp only [Act.put, List.setIfInBounds_toArray, List.set_cons_zero, List.set_cons_succ]
      refine wpAnyH_ready (rs := [3]) (by kernel_rfl) (by simp) ?_
      refine AllReadyH.cons rfl (fun K hK => ?_) AllReadyH.nil
      rw [if_pos (by rfl)]
      (try simp only [List.getElem_toArray, List.getElem_cons_succ, List.getElem_cons_zero])
      go_simp
      (with_reducible refine (C3.out _).mono ?_)
      rintro e wq ⟨rfl, nq, rfl⟩
      (try rw [alloc_drewN])
      try go_wp2_with fail
      refine hK.out _ _ trivial (fun _ => ?_)
      clear hK K
      try simp only [Act.put, List.setIfInBounds_toArray, List.set_cons_zero, List.set_cons_succ]
      refine wpAnyH_ready (rs := [9]) (by kernel_rfl) (by simp) ?_
      refine AllReadyH.cons rfl (fun K hK => ?_) AllReadyH.nil
      rw [if_pos (by rfl)]
      (try simp only [List.getElem_toArray, List.getElem_cons_succ, List.getElem_cons_zero])
      go_simp
      (with_reducible refine (C4.out _).mono ?_)
      rintro e wq ⟨rfl, nq, rfl⟩
      (try rw [alloc_drewN])
      try go_wp2_with fail
      refine hK.out _ _ trivial (fun _ => ?_)
      clear hK K
      try simp only [Act.put, List.setIfInBounds_toArray, List.set_cons_zero, List.set_cons_succ]
      refine wpAnyH_ready (rs := [11]) (by kernel_rfl) (by simp) ?_
      refine AllReadyH.cons rfl (fun K hK => ?_) AllReadyH.nil
      rw [if_pos (by rfl)]
      (try simp only [List.getElem_toArray, List.getElem_cons_succ, List.getElem_cons_zero])
      go_simp
      (with_reducible refine (C5.out _).mono ?_)
      rintro e wq ⟨rfl, nq, rfl⟩
      (try rw [alloc_drewN])
      try go_wp2_with fail
      refine hK.out _ _ trivial (fun _ => ?_)
      clear hK K
      try simp only [Act.put, List.setIfInBounds_toArray, List.set_cons_zero, List.set_cons_succ]
      refine wpAnyH_take (i := 15) (v := ?v15_16) rfl (by kernel_rfl) (by kernel_rfl) (by kernel_rfl) (fun _ _ _ h => h) (Or.inl (And.intro rfl ?q15_16)) trivial ?r15_16; (case q15_16 => (intro w _; (try dsimp only); (try go_simp); (try with_reducible rfl)))
      try simp only [Act.put, List.setIfInBounds_toArray, List.set_cons_zero, List.set_cons_succ]
      refine wpAnyH_ready (rs := [17]) (by kernel_rfl) (by simp) ?_
      refine AllReadyH.cons rfl (fun K hK => ?_) AllReadyH.nil
      rw [if_pos (by rfl)]
      (try simp only [List.getElem_toArray, List.getElem_cons_succ, List.getElem_cons_zero])
      go_simp
      refine hK.out _ _ trivial (fun _ => ?_)
      clear hK K
      try simp only [Act.put, List.setIfInBounds_toArray, List.set_cons_zero, List.set_cons_succ]
      refine wpAnyH_done (by kernel_rfl) ?_ _
      first | with_reducible exact key _ ⟨Below.put8 (hB _) (Nat.le_of_lt z2) (.int .u8 v1) (.int .u16 v2) (.bool false) (.int .u8 v3) (.int .u8 v4) (.int .u32 v5) (.int .u32 v6) (.string (s.extract 20 y.toNat)), Cells.far8 (hR _) (Nat.ne_of_lt z2) (.int .u8 v1) (.int .u16 v2) (.bool false) (.int .u8 v3) (.int .u8 v4) (.int .u32 v5) (.int .u32 v6) (.string (s.extract 20 y.toNat)), Cells.put8 (hN _) (.int .u8 v1) (.int .u16 v2) (.bool false) (.int .u8 v3) (.int .u8 v4) (.int .u32 v5) (.int .u32 v6) (.string (s.extract 20 y.toNat))⟩ | with_reducible exact key _ ⟨Below.put8 (hB2 _ _) (Nat.le_of_lt z2) (.int .u8 v1) (.int .u16 v2) (.bool false) (.int .u8 v3) (.int .u8 v4) (.int .u32 v5) (.int .u32 v6) (.string (s.extract 20 y.toNat)), Cells.far8 (hR2 _ _) (Nat.ne_of_lt z2) (.int .u8 v1) (.int .u16 v2) (.bool false) (.int .u8 v3) (.int .u8 v4) (.int .u32 v5) (.int .u32 v6) (.string (s.extract 20 y.toNat)), Cells.put8 (hN2 _ _) (.int .u8 v1) (.int .u16 v2) (.bool false) (.int .u8 v3) (.int .u8 v4) (.int .u32 v5) (.int .u32 v6) (.string (s.extract 20 y.toNat))⟩
  case rest =>
    intro X hX
    obtain ⟨bX, rX, hX⟩ := hX
    have hcase : v7 = 0 ∨ v7 = 16384 ∨ (v7 ≠ 0 ∧ v7 ≠ 16384) := by omega
    rcases hcase with rfl | rfl | ⟨g1, g2⟩
    · go_wp2_with fail
      (with_reducible refine (C6.out _).mono ?_)
      rintro e w3 ⟨rfl, n3, rfl⟩
      have b3 : Below w.heap.size w (X.drewN n3) := below_drewN bX n3
      have r3 : Cells (X.drewN n3) w.heap.size #[.int .u8 0, .int .u16 0, .bool false, .int .u8 0, .int .u8 0, .int .u32 0, .int .u32 0, .string { data := #[] }] 127 := rX
      have h3 : Cells (X.drewN n3) w2.heap.size #[.int .u8 v1, .int .u16 v2, .bool false, .int .u8 v3, .int .u8 v4, .int .u32 v5, .int .u32 v6, .string (s.extract 20 y.toNat)] 127 := hX
      clear bX rX hX
      generalize X.drewN n3 = X3 at *
      go_wp2_with fail
      have fS := hide (fun (X : World) (hX : Cells X w2.heap.size #[.int .u8 v1, .int .u16 v2, .bool false, .int .u8 v3, .int .u8 v4, .int .u32 v5, .int .u32 v6, .string (s.extract 20 y.toNat)] 127) => (show World.cell? X ⟨w2.heap.size, 0, none⟩ = some (.int .u8 v1) ∧ World.cell? X ⟨w2.heap.size, 1, none⟩ = some (.int .u16 v2) ∧ World.cell? X ⟨w2.heap.size, 2, none⟩ = some (.bool false) ∧ World.cell? X ⟨w2.heap.size, 3, none⟩ = some (.int .u8 v3) ∧ World.cell? X ⟨w2.heap.size, 4, none⟩ = some (.int .u8 v4) ∧ World.cell? X ⟨w2.heap.size, 5, none⟩ = some (.int .u32 v5) ∧ World.cell? X ⟨w2.heap.size, 6, none⟩ = some (.int .u32 v6) ∧ World.cell? X ⟨w2.heap.size, 7, none⟩ = some (.string (s.extract 20 y.toNat)) from ⟨hX.at_ 0, hX.at_ 1, hX.at_ 2, hX.at_ 3, hX.at_ 4, hX.at_ 5, hX.at_ 6, hX.at_ 7⟩))
      have H4 := hide h3
      have bB : Below w.heap.size w X3 := b3
      have xh3_0 : X3.cell? ⟨w2.heap.size, 0, none⟩ = some (.int .u8 v1) := h3.at_ 0
      have xh3_1 : X3.cell? ⟨w2.heap.size, 1, none⟩ = some (.int .u16 v2) := h3.at_ 1
      have xh3_2 : X3.cell? ⟨w2.heap.size, 2, none⟩ = some (.bool false) := h3.at_ 2
      have xh3_3 : X3.cell? ⟨w2.heap.size, 3, none⟩ = some (.int .u8 v3) := h3.at_ 3
      have xh3_4 : X3.cell? ⟨w2.heap.size, 4, none⟩ = some (.int .u8 v4) := h3.at_ 4
      have xh3_5 : X3.cell? ⟨w2.heap.size, 5, none⟩ = some (.int .u32 v5) := h3.at_ 5
      have xh3_6 : X3.cell? ⟨w2.heap.size, 6, none⟩ = some (.int .u32 v6) := h3.at_ 6
      have xh3_7 : X3.cell? ⟨w2.heap.size, 7, none⟩ = some (.string (s.extract 20 y.toNat)) := h3.at_ 7
      have xr3_0 : X3.cell? ⟨w.heap.size, 0, none⟩ = some (.int .u8 0) := r3.at_ 0
      have xr3_1 : X3.cell? ⟨w.heap.size, 1, none⟩ = some (.int .u16 0) := r3.at_ 1
      have xr3_2 : X3.cell? ⟨w.heap.size, 2, none⟩ = some (.bool false) := r3.at_ 2
      have xr3_3 : X3.cell? ⟨w.heap.size, 3, none⟩ = some (.int .u8 0) := r3.at_ 3
      have xr3_4 : X3.cell? ⟨w.heap.size, 4, none⟩ = some (.int .u8 0) := r3.at_ 4
      have xr3_5 : X3.cell? ⟨w.heap.size, 5, none⟩ = some (.int .u32 0) := r3.at_ 5
      have xr3_6 : X3.cell? ⟨w.heap.size, 6, none⟩ = some (.int .u32 0) := r3.at_ 6
      have xr3_7 : X3.cell? ⟨w.heap.size, 7, none⟩ = some (.string { data := #[] }) := r3.at_ 7
      have yr3_0 : X3.frozen? ⟨w.heap.size, 0, none⟩ = false := r3.free 0
      have yr3_1 : X3.frozen? ⟨w.heap.size, 1, none⟩ = false := r3.free 1
      have yr3_2 : X3.frozen? ⟨w.heap.size, 2, none⟩ = false := r3.free 2
      have yr3_3 : X3.frozen? ⟨w.heap.size, 3, none⟩ = false := r3.free 3
      have yr3_4 : X3.frozen? ⟨w.heap.size, 4, none⟩ = false := r3.free 4
      have yr3_5 : X3.frozen? ⟨w.heap.size, 5, none⟩ = false := r3.free 5
      have yr3_6 : X3.frozen? ⟨w.heap.size, 6, none⟩ = false := r3.free 6
      have yr3_7 : X3.frozen? ⟨w.heap.size, 7, none⟩ = false := r3.free 7
      go_region_held3 (fun zW => World.cell? zW ⟨w2.heap.size, 0, none⟩ = some (.int .u8 v1) ∧ World.cell? zW ⟨w2.heap.size, 1, none⟩ = some (.int .u16 v2) ∧ World.cell? zW ⟨w2.heap.size, 2, none⟩ = some (.bool false) ∧ World.cell? zW ⟨w2.heap.size, 3, none⟩ = some (.int .u8 v3) ∧ World.cell? zW ⟨w2.heap.size, 4, none⟩ = some (.int .u8 v4) ∧ World.cell? zW ⟨w2.heap.size, 5, none⟩ = some (.int .u32 v5) ∧ World.cell? zW ⟨w2.heap.size, 6, none⟩ = some (.int .u32 v6) ∧ World.cell? zW ⟨w2.heap.size, 7, none⟩ = some (.string (s.extract 20 y.toNat))) (((try dsimp only); with_reducible refine fS.out _ ?_; (repeat' (first | with_reducible exact H4.out | with_reducible refine Cells.drew ?_ | with_reducible refine Cells.other ?_ (Nat.ne_of_gt z2) _ _))))
        (fail)
      go_wp2
      have r5 := (Cells.put8 r3 (.int .u8 v1) (.int .u16 v2) (.bool false) (.int .u8 v3) (.int .u8 v4) (.int .u32 v5) (.int .u32 v6) (.string (s.extract 20 y.toNat))).drew
      have b5 := (Below.put8 bB (b := w.heap.size) (by first | exact Nat.le_refl _ | omega) (.int .u8 v1) (.int .u16 v2) (.bool false) (.int .u8 v3) (.int .u8 v4) (.int .u32 v5) (.int .u32 v6) (.string (s.extract 20 y.toNat))).drew
      have HR5 := hide r5; have HB5 := hide b5
      clear r5 b5 r3
      generalize ((((((((X3.setCell ⟨w.heap.size, 0, none⟩ (.int .u8 v1)).setCell ⟨w.heap.size, 1, none⟩ (.int .u16 v2)).setCell ⟨w.heap.size, 2, none⟩ (.bool false)).setCell ⟨w.heap.size, 3, none⟩ (.int .u8 v3)).setCell ⟨w.heap.size, 4, none⟩ (.int .u8 v4)).setCell ⟨w.heap.size, 5, none⟩ (.int .u32 v5)).setCell ⟨w.heap.size, 6, none⟩ (.int .u32 v6)).setCell ⟨w.heap.size, 7, none⟩ (.string (s.extract 20 y.toNat))).drew = W5 at *
      have r5 := HR5.out; have b5 := HB5.out
      clear HR5 HB5
      have xr5_0 : W5.cell? ⟨w.heap.size, 0, none⟩ = some (.int .u8 v1) := r5.at_ 0
      have xr5_1 : W5.cell? ⟨w.heap.size, 1, none⟩ = some (.int .u16 v2) := r5.at_ 1
      have xr5_2 : W5.cell? ⟨w.heap.size, 2, none⟩ = some (.bool false) := r5.at_ 2
      have xr5_3 : W5.cell? ⟨w.heap.size, 3, none⟩ = some (.int .u8 v3) := r5.at_ 3
      have xr5_4 : W5.cell? ⟨w.heap.size, 4, none⟩ = some (.int .u8 v4) := r5.at_ 4
      have xr5_5 : W5.cell? ⟨w.heap.size, 5, none⟩ = some (.int .u32 v5) := r5.at_ 5
      have xr5_6 : W5.cell? ⟨w.heap.size, 6, none⟩ = some (.int .u32 v6) := r5.at_ 6
      have xr5_7 : W5.cell? ⟨w.heap.size, 7, none⟩ = some (.string (s.extract 20 y.toNat)) := r5.at_ 7
      (try simp only [Exit.inBlock, Exit.then]); refine bodyPost_ret (by simp [results, Tryz.results55, go_sem, *]; try rfl) rfl ?_
      exact ⟨by rw [HRV.out]; rfl, b5⟩
    · go_wp2_with fail
      (with_reducible refine (C6.out _).mono ?_)
      rintro e w3 ⟨rfl, n3, rfl⟩
      have b3 : Below w.heap.size w (X.drewN n3) := below_drewN bX n3
      have r3 : Cells (X.drewN n3) w.heap.size #[.int .u8 0, .int .u16 0, .bool false, .int .u8 0, .int .u8 0, .int .u32 0, .int .u32 0, .string { data := #[] }] 127 := rX
      have h3 : Cells (X.drewN n3) w2.heap.size #[.int .u8 v1, .int .u16 v2, .bool false, .int .u8 v3, .int .u8 v4, .int .u32 v5, .int .u32 v6, .string (s.extract 20 y.toNat)] 127 := hX
      clear bX rX hX
      generalize X.drewN n3 = X3 at *
      have k2 : X3.cell? ⟨w2.heap.size, 2, none⟩ = some (.bool false) := h3.at_ 2
      have k3 := h3.free 2
      have h5 : Cells (X3.setCell ⟨w2.heap.size, 2, none⟩ (.bool true)) w2.heap.size #[.int .u8 v1, .int .u16 v2, .bool true, .int .u8 v3, .int .u8 v4, .int .u32 v5, .int .u32 v6, .string (s.extract 20 y.toNat)] 127 := h3.set_ 2 (.bool true)
      have r6 := r3.other (Nat.ne_of_lt z2) 2 (.bool true)
      have b6 := b3.setCell (p := ⟨w2.heap.size, 2, none⟩) (Nat.le_of_lt z2) (.bool true)
      have R6 := hide r6; have B6 := hide b6; have H5 := hide h5
      clear r3 h3 b3 r6 b6 h5
      go_wp2_with fail
      generalize X3.setCell ⟨w2.heap.size, 2, none⟩ (.bool true) = X4 at *
      clear k2 k3
      have h4 := H5.out; have r4 := R6.out; have b4 := B6.out
      clear R6 B6 H5
      have fS := hide (fun (X : World) (hX : Cells X w2.heap.size #[.int .u8 v1, .int .u16 v2, .bool true, .int .u8 v3, .int .u8 v4, .int .u32 v5, .int .u32 v6, .string (s.extract 20 y.toNat)] 127) => (show World.cell? X ⟨w2.heap.size, 0, none⟩ = some (.int .u8 v1) ∧ World.cell? X ⟨w2.heap.size, 1, none⟩ = some (.int .u16 v2) ∧ World.cell? X ⟨w2.heap.size, 2, none⟩ = some (.bool true) ∧ World.cell? X ⟨w2.heap.size, 3, none⟩ = some (.int .u8 v3) ∧ World.cell? X ⟨w2.heap.size, 4, none⟩ = some (.int .u8 v4) ∧ World.cell? X ⟨w2.heap.size, 5, none⟩ = some (.int .u32 v5) ∧ World.cell? X ⟨w2.heap.size, 6, none⟩ = some (.int .u32 v6) ∧ World.cell? X ⟨w2.heap.size, 7, none⟩ = some (.string (s.extract 20 y.toNat)) from ⟨hX.at_ 0, hX.at_ 1, hX.at_ 2, hX.at_ 3, hX.at_ 4, hX.at_ 5, hX.at_ 6, hX.at_ 7⟩))
      have H4 := hide h4
      have bB : Below w.heap.size w X4 := b4
      have xh4_0 : X4.cell? ⟨w2.heap.size, 0, none⟩ = some (.int .u8 v1) := h4.at_ 0
      have xh4_1 : X4.cell? ⟨w2.heap.size, 1, none⟩ = some (.int .u16 v2) := h4.at_ 1
      have xh4_2 : X4.cell? ⟨w2.heap.size, 2, none⟩ = some (.bool true) := h4.at_ 2
      have xh4_3 : X4.cell? ⟨w2.heap.size, 3, none⟩ = some (.int .u8 v3) := h4.at_ 3
      have xh4_4 : X4.cell? ⟨w2.heap.size, 4, none⟩ = some (.int .u8 v4) := h4.at_ 4
      have xh4_5 : X4.cell? ⟨w2.heap.size, 5, none⟩ = some (.int .u32 v5) := h4.at_ 5
      have xh4_6 : X4.cell? ⟨w2.heap.size, 6, none⟩ = some (.int .u32 v6) := h4.at_ 6
      have xh4_7 : X4.cell? ⟨w2.heap.size, 7, none⟩ = some (.string (s.extract 20 y.toNat)) := h4.at_ 7
      have xr4_0 : X4.cell? ⟨w.heap.size, 0, none⟩ = some (.int .u8 0) := r4.at_ 0
      have xr4_1 : X4.cell? ⟨w.heap.size, 1, none⟩ = some (.int .u16 0) := r4.at_ 1
      have xr4_2 : X4.cell? ⟨w.heap.size, 2, none⟩ = some (.bool false) := r4.at_ 2
      have xr4_3 : X4.cell? ⟨w.heap.size, 3, none⟩ = some (.int .u8 0) := r4.at_ 3
      have xr4_4 : X4.cell? ⟨w.heap.size, 4, none⟩ = some (.int .u8 0) := r4.at_ 4
      have xr4_5 : X4.cell? ⟨w.heap.size, 5, none⟩ = some (.int .u32 0) := r4.at_ 5
      have xr4_6 : X4.cell? ⟨w.heap.size, 6, none⟩ = some (.int .u32 0) := r4.at_ 6
      have xr4_7 : X4.cell? ⟨w.heap.size, 7, none⟩ = some (.string { data := #[] }) := r4.at_ 7
      have yr4_0 : X4.frozen? ⟨w.heap.size, 0, none⟩ = false := r4.free 0
      have yr4_1 : X4.frozen? ⟨w.heap.size, 1, none⟩ = false := r4.free 1
      have yr4_2 : X4.frozen? ⟨w.heap.size, 2, none⟩ = false := r4.free 2
      have yr4_3 : X4.frozen? ⟨w.heap.size, 3, none⟩ = false := r4.free 3
      have yr4_4 : X4.frozen? ⟨w.heap.size, 4, none⟩ = false := r4.free 4
      have yr4_5 : X4.frozen? ⟨w.heap.size, 5, none⟩ = false := r4.free 5
      have yr4_6 : X4.frozen? ⟨w.heap.size, 6, none⟩ = false := r4.free 6
      have yr4_7 : X4.frozen? ⟨w.heap.size, 7, none⟩ = false := r4.free 7
      go_region_held3 (fun zW => World.cell? zW ⟨w2.heap.size, 0, none⟩ = some (.int .u8 v1) ∧ World.cell? zW ⟨w2.heap.size, 1, none⟩ = some (.int .u16 v2) ∧ World.cell? zW ⟨w2.heap.size, 2, none⟩ = some (.bool true) ∧ World.cell? zW ⟨w2.heap.size, 3, none⟩ = some (.int .u8 v3) ∧ World.cell? zW ⟨w2.heap.size, 4, none⟩ = some (.int .u8 v4) ∧ World.cell? zW ⟨w2.heap.size, 5, none⟩ = some (.int .u32 v5) ∧ World.cell? zW ⟨w2.heap.size, 6, none⟩ = some (.int .u32 v6) ∧ World.cell? zW ⟨w2.heap.size, 7, none⟩ = some (.string (s.extract 20 y.toNat))) (((try dsimp only); with_reducible refine fS.out _ ?_; (repeat' (first | with_reducible exact H4.out | with_reducible refine Cells.drew ?_ | with_reducible refine Cells.other ?_ (Nat.ne_of_gt z2) _ _))))
        (fail)
      go_wp2
      have r5 := (Cells.put8 r4 (.int .u8 v1) (.int .u16 v2) (.bool true) (.int .u8 v3) (.int .u8 v4) (.int .u32 v5) (.int .u32 v6) (.string (s.extract 20 y.toNat))).drew
      have b5 := (Below.put8 bB (b := w.heap.size) (by first | exact Nat.le_refl _ | omega) (.int .u8 v1) (.int .u16 v2) (.bool true) (.int .u8 v3) (.int .u8 v4) (.int .u32 v5) (.int .u32 v6) (.string (s.extract 20 y.toNat))).drew
      have HR5 := hide r5; have HB5 := hide b5
      clear r5 b5 r4
      generalize ((((((((X4.setCell ⟨w.heap.size, 0, none⟩ (.int .u8 v1)).setCell ⟨w.heap.size, 1, none⟩ (.int .u16 v2)).setCell ⟨w.heap.size, 2, none⟩ (.bool true)).setCell ⟨w.heap.size, 3, none⟩ (.int .u8 v3)).setCell ⟨w.heap.size, 4, none⟩ (.int .u8 v4)).setCell ⟨w.heap.size, 5, none⟩ (.int .u32 v5)).setCell ⟨w.heap.size, 6, none⟩ (.int .u32 v6)).setCell ⟨w.heap.size, 7, none⟩ (.string (s.extract 20 y.toNat))).drew = W5 at *
      have r5 := HR5.out; have b5 := HB5.out
      clear HR5 HB5
      have xr5_0 : W5.cell? ⟨w.heap.size, 0, none⟩ = some (.int .u8 v1) := r5.at_ 0
      have xr5_1 : W5.cell? ⟨w.heap.size, 1, none⟩ = some (.int .u16 v2) := r5.at_ 1
      have xr5_2 : W5.cell? ⟨w.heap.size, 2, none⟩ = some (.bool true) := r5.at_ 2
      have xr5_3 : W5.cell? ⟨w.heap.size, 3, none⟩ = some (.int .u8 v3) := r5.at_ 3
      have xr5_4 : W5.cell? ⟨w.heap.size, 4, none⟩ = some (.int .u8 v4) := r5.at_ 4
      have xr5_5 : W5.cell? ⟨w.heap.size, 5, none⟩ = some (.int .u32 v5) := r5.at_ 5
      have xr5_6 : W5.cell? ⟨w.heap.size, 6, none⟩ = some (.int .u32 v6) := r5.at_ 6
      have xr5_7 : W5.cell? ⟨w.heap.size, 7, none⟩ = some (.string (s.extract 20 y.toNat)) := r5.at_ 7
      (try simp only [Exit.inBlock, Exit.then]); refine bodyPost_ret (by simp [results, Tryz.results55, go_sem, *]; try rfl) rfl ?_
      exact ⟨by rw [HRV.out]; rfl, b5⟩
    · have m3 : (v7 == 0) = false := by simpa using g1
      have m4 : (v7 == 16384) = false := by simpa using g2
      have e5 : rv = Value.tuple #[hdZero, .string { data := #[] }, .int .i64 5] := by rw [HRV.out, if_pos ⟨g1, g2⟩]
      have HE5 := hide e5
      clear e5
      go_wp2_with fail
      (with_reducible refine (C6.out _).mono ?_)
      rintro e w3 ⟨rfl, n3, rfl⟩
      have b3 : Below w.heap.size w (X.drewN n3) := below_drewN bX n3
      have r3 : Cells (X.drewN n3) w.heap.size #[.int .u8 0, .int .u16 0, .bool false, .int .u8 0, .int .u8 0, .int .u32 0, .int .u32 0, .string { data := #[] }] 127 := rX
      clear bX rX hX
      generalize X.drewN n3 = X3 at *
      have xr3_0 : X3.cell? ⟨w.heap.size, 0, none⟩ = some (.int .u8 0) := r3.at_ 0
      have xr3_1 : X3.cell? ⟨w.heap.size, 1, none⟩ = some (.int .u16 0) := r3.at_ 1
      have xr3_2 : X3.cell? ⟨w.heap.size, 2, none⟩ = some (.bool false) := r3.at_ 2
      have xr3_3 : X3.cell? ⟨w.heap.size, 3, none⟩ = some (.int .u8 0) := r3.at_ 3
      have xr3_4 : X3.cell? ⟨w.heap.size, 4, none⟩ = some (.int .u8 0) := r3.at_ 4
      have xr3_5 : X3.cell? ⟨w.heap.size, 5, none⟩ = some (.int .u32 0) := r3.at_ 5
      have xr3_6 : X3.cell? ⟨w.heap.size, 6, none⟩ = some (.int .u32 0) := r3.at_ 6
      have xr3_7 : X3.cell? ⟨w.heap.size, 7, none⟩ = some (.string { data := #[] }) := r3.at_ 7
      have yr3_0 : X3.frozen? ⟨w.heap.size, 0, none⟩ = false := r3.free 0
      have yr3_1 : X3.frozen? ⟨w.heap.size, 1, none⟩ = false := r3.free 1
      have yr3_2 : X3.frozen? ⟨w.heap.size, 2, none⟩ = false := r3.free 2
      have yr3_3 : X3.frozen? ⟨w.heap.size, 3, none⟩ = false := r3.free 3
      have yr3_4 : X3.frozen? ⟨w.heap.size, 4, none⟩ = false := r3.free 4
      have yr3_5 : X3.frozen? ⟨w.heap.size, 5, none⟩ = false := r3.free 5
      have yr3_6 : X3.frozen? ⟨w.heap.size, 6, none⟩ = false := r3.free 6
      have yr3_7 : X3.frozen? ⟨w.heap.size, 7, none⟩ = false := r3.free 7
      go_wp2_with fail
      have r5 := (Cells.put8 r3 (.int .u8 0) (.int .u16 0) (.bool false) (.int .u8 0) (.int .u8 0) (.int .u32 0) (.int .u32 0) (.string { data := #[] }))
      have b5 := (Below.put8 b3 (b := w.heap.size) (by first | exact Nat.le_refl _ | omega) (.int .u8 0) (.int .u16 0) (.bool false) (.int .u8 0) (.int .u8 0) (.int .u32 0) (.int .u32 0) (.string { data := #[] }))
      have HR5 := hide r5; have HB5 := hide b5
      clear r5 b5 r3
      generalize ((((((((X3.setCell ⟨w.heap.size, 0, none⟩ (.int .u8 0)).setCell ⟨w.heap.size, 1, none⟩ (.int .u16 0)).setCell ⟨w.heap.size, 2, none⟩ (.bool false)).setCell ⟨w.heap.size, 3, none⟩ (.int .u8 0)).setCell ⟨w.heap.size, 4, none⟩ (.int .u8 0)).setCell ⟨w.heap.size, 5, none⟩ (.int .u32 0)).setCell ⟨w.heap.size, 6, none⟩ (.int .u32 0)).setCell ⟨w.heap.size, 7, none⟩ (.string { data := #[] })) = W5 at *
      have r5 := HR5.out; have b5 := HB5.out
      clear HR5 HB5
      have xr5_0 : W5.cell? ⟨w.heap.size, 0, none⟩ = some (.int .u8 0) := r5.at_ 0
      have xr5_1 : W5.cell? ⟨w.heap.size, 1, none⟩ = some (.int .u16 0) := r5.at_ 1
      have xr5_2 : W5.cell? ⟨w.heap.size, 2, none⟩ = some (.bool false) := r5.at_ 2
      have xr5_3 : W5.cell? ⟨w.heap.size, 3, none⟩ = some (.int .u8 0) := r5.at_ 3
      have xr5_4 : W5.cell? ⟨w.heap.size, 4, none⟩ = some (.int .u8 0) := r5.at_ 4
      have xr5_5 : W5.cell? ⟨w.heap.size, 5, none⟩ = some (.int .u32 0) := r5.at_ 5
      have xr5_6 : W5.cell? ⟨w.heap.size, 6, none⟩ = some (.int .u32 0) := r5.at_ 6
      have xr5_7 : W5.cell? ⟨w.heap.size, 7, none⟩ = some (.string { data := #[] }) := r5.at_ 7
      (try simp only [Exit.inBlock, Exit.then]); refine bodyPost_ret (by simp [results, Tryz.results55, go_sem, *]; try rfl) rfl ?_
      exact ⟨by rw [HE5.out]; rfl, b5⟩
end Go.Proofs.YtedfdphapcanoaaGreatDoor
end

section
/- The bytes of a header of ip over this program. -/
set_option linter.unusedVariables false
set_option linter.unusedSimpArgs false
namespace Go.Proofs.YtedfdphapcanoaaGreatDoor
open Go.RowKit
attribute [local go_sem] Oper.semAt_some

def Hd.cut (h : Hd) : Int := if h.f = true then 16384 else 0
def Hd.words (h : Hd) (size sum : Int) : List Int := [(64 + (20 + (h.o.size : Int)) / 4) * 256 + h.t, size, h.i, h.cut, h.l * 256 + h.p, sum]
/-- a header's bytes -/
def Hd.bytes (h : Hd) (size sum : Int) : List UInt8 := putW (h.words size sum) ++ put32 h.s ++ put32 h.d ++ L h.o

end Go.Proofs.YtedfdphapcanoaaGreatDoor
end
