/- Several texts of this claim, one behind the other. -/
import Derived.Test.YtedfdphapcanoaaGreatDoorM28
import Derived.Deep.QuietTactic
import Derived.BigQuiet
import Derived.Test.YtedfdphapcanoaaGreatDoorM26

section
/- ip over this program: what stands in a header, how many bytes it and its packet have. -/
set_option linter.unusedVariables false
namespace Go.Proofs.YtedfdphapcanoaaGreatDoor
open Go.RowKit
attribute [local go_sem] Oper.semAt_some

theorem i_two (s : ByteArray) (k : Nat) (w : World) (hs : s.size ≤ maxLen) (h : k + 2 ≤ s.size) :
    Calls Tryz.prog 114 #[.string s, .int .i64 k] w (Quiet (.int .u16 (get16 (L s) k)) w) := by
  have c := fun w => Get16_in s k w hs h
  rw [← get16_nat (l := L s) (k := k) (by rw [L_length]; exact h)] at c
  obtain ⟨x, hx⟩ : ∃ x, x = get16 (L s) k := ⟨_, rfl⟩
  rw [← hx] at c ⊢
  have C := hide c
  clear c hx
  go_enter Tryz.func114, Tryz.ntmps114
  go_wp2_with fail
  (with_reducible refine (C.out _).mono ?_)
  rintro e w1 ⟨rfl, n1, rfl⟩
  go_wp2_with fail
  go_ret
  exact ⟨rfl, _, rfl⟩
theorem i_addr (s : ByteArray) (k : Nat) (w : World) (hs : s.size ≤ maxLen) (h : k + 4 ≤ s.size) :
    Calls Tryz.prog 115 #[.string s, .int .i64 k] w (Quiet (.int .u32 (get32 (L s) k)) w) := by
  have c := fun w => Get32_in s k w hs h
  rw [← get32_nat (l := L s) (k := k) (by rw [L_length]; exact h)] at c
  obtain ⟨x, hx⟩ : ∃ x, x = get32 (L s) k := ⟨_, rfl⟩
  have hxb : 0 ≤ x ∧ x ≤ 4294967295 := by rw [hx]; exact get32_bd _ _
  rw [← hx] at c ⊢
  have C := hide c
  clear c hx
  go_enter Tryz.func115, Tryz.ntmps115
  go_wp2_with fail
  (with_reducible refine (C.out _).mono ?_)
  rintro e w1 ⟨rfl, n1, rfl⟩
  go_wp2_with fail
  go_ret
  exact ⟨rfl, _, rfl⟩
theorem r4_number (s : ByteArray) (k : Nat) (w : World) (hs : s.size ≤ maxLen) (h : k + 2 ≤ s.size) :
    Calls Tryz.prog 252 #[.string s, .int .i64 k] w (fun e w' => e = .returned (.int .i64 (get16 (L s) k)) ∧ w' = w) := by
  have c := fun w => q_Get16 s k w hs h
  obtain ⟨x, hx⟩ : ∃ x, x = get16 (L s) k := ⟨_, rfl⟩
  have hxb : 0 ≤ x ∧ x ≤ 65535 := by rw [hx]; exact get16_bd _ _
  rw [← hx] at c ⊢
  have C := hide c
  clear c hx
  go_enter Tryz.func252, Tryz.ntmps252
  go_wp2_with fail
  (with_reducible refine (C.out _).mono ?_)
  rintro e w1 ⟨rfl, rfl⟩
  go_wp2_with fail
  go_ret
  exact ⟨rfl, rfl⟩
theorem r4_addr (s : ByteArray) (k : Nat) (w : World) (hs : s.size ≤ maxLen) (h : k + 4 ≤ s.size) :
    Calls Tryz.prog 254 #[.string s, .int .i64 k] w (fun e w' => e = .returned (.int .u32 (get32 (L s) k)) ∧ w' = w) := by
  have c := fun w => q_Get32 s k w hs h
  obtain ⟨x, hx⟩ : ∃ x, x = get32 (L s) k := ⟨_, rfl⟩
  have hxb : 0 ≤ x ∧ x ≤ 4294967295 := by rw [hx]; exact get32_bd _ _
  rw [← hx] at c ⊢
  have C := hide c
  clear c hx
  go_enter Tryz.func254, Tryz.ntmps254
  go_wp2_with fail
  (with_reducible refine (C.out _).mono ?_)
  rintro e w1 ⟨rfl, rfl⟩
  go_wp2_with fail
  go_ret
  exact ⟨rfl, rfl⟩

/-- how many bytes a header has, and its packet -/
def ipOwn (l : List UInt8) : Int := at_ l 0 % 16 * 4
def ipAll (l : List UInt8) : Int := get16 l 2
def ipFits (s : ByteArray) : Bool := decide (20 ≤ ipOwn (L s)) && decide (ipOwn (L s) ≤ ipAll (L s)) && decide (ipAll (L s) ≤ s.size) && decide (ipAll (L s) ≤ 2048)

set_option maxHeartbeats 2000000 in
theorem i_lengths (s : ByteArray) (w : World) (hs : s.size ≤ 140737488351232) (h : 20 ≤ s.size) :
    Calls Tryz.prog 112 #[.string s] w (Quiet (.tuple #[.int .i64 (ipOwn (L s)), .int .i64 (ipAll (L s)), .bool (ipFits s)]) w) := by
  have e0 : (((s[0]'(by omega)).toNat : Nat) : Int) = at_ (L s) 0 := by rw [getElem_L s 0 (by omega)]; rfl
  have hb := at_bd (L s) 0
  have i4 : (0 : Int) < (s.size : Int) := by omega
  have i5 : 0 < s.size := by omega
  have c := fun w => i_two s 2 w (by unfold maxLen; omega) (by omega)
  rw [show ((2 : Nat) : Int) = 2 from rfl] at c
  obtain ⟨f, hf⟩ : ∃ f, f = ipFits s := ⟨_, rfl⟩
  rw [← hf]
  unfold ipFits at hf
  have hy := get16_bd (L s) 2
  unfold ipAll ipOwn at hf ⊢
  obtain ⟨y, hy0⟩ : ∃ y, y = get16 (L s) 2 := ⟨_, rfl⟩
  obtain ⟨x, hx0⟩ : ∃ x, x = at_ (L s) 0 := ⟨_, rfl⟩
  rw [← hy0] at hf hy c ⊢
  rw [← hx0] at hf hb e0 ⊢
  have C := hide c
  clear c hy0 hx0
  have hcase : (f = false ∧ ¬ 20 ≤ x % 16 * 4) ∨ (f = false ∧ 20 ≤ x % 16 * 4 ∧ ¬ x % 16 * 4 ≤ y) ∨ (f = false ∧ 20 ≤ x % 16 * 4 ∧ x % 16 * 4 ≤ y ∧ ¬ y ≤ s.size) ∨ (f = false ∧ 20 ≤ x % 16 * 4 ∧ x % 16 * 4 ≤ y ∧ y ≤ s.size ∧ ¬ y ≤ 2048) ∨ (f = true ∧ 20 ≤ x % 16 * 4 ∧ x % 16 * 4 ≤ y ∧ y ≤ s.size ∧ y ≤ 2048) := by
    by_cases a1 : 20 ≤ x % 16 * 4 <;> by_cases a2 : x % 16 * 4 ≤ y <;> by_cases a3 : y ≤ (s.size : Int) <;> by_cases a4 : y ≤ 2048 <;> simp [a1, a2, a3, a4] at hf <;> simp [a1, a2, a3, a4, hf]
  clear hf
  rcases hcase with ⟨rfl, q1⟩ | ⟨rfl, q1, q2⟩ | ⟨rfl, q1, q2, q3⟩ | ⟨rfl, q1, q2, q3, q4⟩ | ⟨rfl, q1, q2, q3, q4⟩
  all_goals
    go_enter Tryz.func112, Tryz.ntmps112
    go_wp2_with fail
    go_quiet ((go_at_call 114; refine Calls.quiet_of (C.out _)))
    go_wp2
    (try simp only [Exit.inBlock, Exit.then]); refine bodyPost_ret (by simp [results, Tryz.results112, go_sem]; try rfl) rfl ?_
    exact ⟨by first | rfl | (simp; omega), _, rfl⟩
end Go.Proofs.YtedfdphapcanoaaGreatDoor
end

section
/- ip.Parse over this program, of what it does not take. -/
set_option linter.unusedVariables false
namespace Go.Proofs.YtedfdphapcanoaaGreatDoor
open Go.RowKit
attribute [local go_sem] Oper.semAt_some

/-- a packet's header -/
structure Hd where
  t : Int
  i : Int
  f : Bool
  l : Int
  p : Int
  s : Int
  d : Int
  o : ByteArray
def Hd.Ok (h : Hd) : Prop := (0 ≤ h.t ∧ h.t ≤ 255) ∧ (0 ≤ h.i ∧ h.i ≤ 65535) ∧ (0 ≤ h.l ∧ h.l ≤ 255) ∧ (0 ≤ h.p ∧ h.p ≤ 255) ∧ (0 ≤ h.s ∧ h.s ≤ 4294967295) ∧ (0 ≤ h.d ∧ h.d ≤ 4294967295) ∧ h.o.size ≤ 140737488351232
def Hd.cells (h : Hd) : Array Value := #[.int .u8 h.t, .int .u16 h.i, .bool h.f, .int .u8 h.l, .int .u8 h.p, .int .u32 h.s, .int .u32 h.d, .string h.o]
def hdNone : Hd := ⟨0, 0, false, 0, 0, 0, 0, { data := #[] }⟩
/-- why a text is no packet -/
def ipWhy (s : ByteArray) : Int :=
  if s.size < 20 then 1 else if at_ (L s) 0 / 16 ≠ 4 then 2 else if ipFits s = false then 3 else if holds [(L s).take (ipOwn (L s)).toNat] = false then 4
  else if get16 (L s) 6 ≠ 0 ∧ get16 (L s) 6 ≠ 16384 then 5 else 0

def hdZero : Value := .agg #[.int .u8 0, .int .u16 0, .bool false, .int .u8 0, .int .u8 0, .int .u32 0, .int .u32 0, .string { data := #[] }]

set_option maxHeartbeats 1000000 in
theorem i_Parse_1 (s : ByteArray) (w : World) (h : s.size < 20) :
    Calls Tryz.prog 55 #[.string s] w (Ret (.tuple #[hdZero, .string { data := #[] }, .int .i64 1]) w) := by
  have q2 : (s.size : Int) < 20 := by omega
  unfold hdZero
  go_enter Tryz.func55, Tryz.ntmps55
  go_wp2_with fail
  (try simp only [Exit.inBlock, Exit.then]); refine bodyPost_ret (by simp [results, Tryz.results55, go_sem]; try rfl) rfl ?_
  exact ⟨rfl, (by (repeat' (first | with_reducible exact Below.refl _ _ | with_reducible refine Below.setCell ?_ (by first | exact Nat.le_refl _ | (dsimp only; omega)) _ | with_reducible refine bstep ?_ (fresh_below _ _) | with_reducible refine Below.drew ?_)))⟩
set_option maxHeartbeats 1000000 in
theorem i_Parse_2 (s : ByteArray) (w : World) (hs : s.size ≤ 140737488351232) (h : 20 ≤ s.size) (h2 : at_ (L s) 0 / 16 ≠ 4) :
    Calls Tryz.prog 55 #[.string s] w (Ret (.tuple #[hdZero, .string { data := #[] }, .int .i64 2]) w) := by
  have q2 : ¬ (s.size : Int) < 20 := by omega
  have e0 : (((s[0]'(by omega)).toNat : Nat) : Int) = at_ (L s) 0 := by rw [getElem_L s 0 (by omega)]; rfl
  have hb := at_bd (L s) 0
  have i4 : (0 : Int) < (s.size : Int) := by omega
  have i5 : 0 < s.size := by omega
  obtain ⟨x, hx⟩ : ∃ x, x = at_ (L s) 0 := ⟨_, rfl⟩
  rw [← hx] at e0 hb h2
  have m1 : (x / 16 != 4) = true := by simpa using h2
  have m2 : (x / 16 == 4) = false := by simpa using h2
  clear hx h2
  unfold hdZero
  go_enter Tryz.func55, Tryz.ntmps55
  go_wp2_with fail
  (try simp only [Exit.inBlock, Exit.then]); refine bodyPost_ret (by simp [results, Tryz.results55, go_sem]; try rfl) rfl ?_
  exact ⟨rfl, (by (repeat' (first | with_reducible exact Below.refl _ _ | with_reducible refine Below.setCell ?_ (by first | exact Nat.le_refl _ | (dsimp only; omega)) _ | with_reducible refine bstep ?_ (fresh_below _ _) | with_reducible refine Below.drew ?_)))⟩
set_option maxHeartbeats 1000000 in
theorem i_Parse_3 (s : ByteArray) (w : World) (hs : s.size ≤ 140737488351232) (h : 20 ≤ s.size) (h2 : at_ (L s) 0 / 16 = 4) (h3 : ipFits s = false) :
    Calls Tryz.prog 55 #[.string s] w (Ret (.tuple #[hdZero, .string { data := #[] }, .int .i64 3]) w) := by
  have q2 : ¬ (s.size : Int) < 20 := by omega
  have e0 : (((s[0]'(by omega)).toNat : Nat) : Int) = at_ (L s) 0 := by rw [getElem_L s 0 (by omega)]; rfl
  have hb := at_bd (L s) 0
  have i4 : (0 : Int) < (s.size : Int) := by omega
  have i5 : 0 < s.size := by omega
  have c := fun w => i_lengths s w hs h
  rw [h3] at c
  obtain ⟨x, hx⟩ : ∃ x, x = at_ (L s) 0 := ⟨_, rfl⟩
  rw [← hx] at e0 hb h2
  have m1 : (x / 16 != 4) = false := by simpa using h2
  have m2 : (x / 16 == 4) = true := by simpa using h2
  obtain ⟨y, hy⟩ : ∃ y, y = ipOwn (L s) := ⟨_, rfl⟩
  obtain ⟨z, hz⟩ : ∃ z, z = ipAll (L s) := ⟨_, rfl⟩
  rw [← hy, ← hz] at c
  have C := hide c
  clear hx h2 c hy hz h3
  unfold hdZero
  go_enter Tryz.func55, Tryz.ntmps55
  have d0 := Cells.new w #[.int .u8 0, .int .u16 0, .bool false, .int .u8 0, .int .u8 0, .int .u32 0, .int .u32 0, .string { data := #[] }] 127
  go_wp2_with fail
  (with_reducible refine (C.out _).mono ?_)
  rintro e w1 ⟨rfl, n1, rfl⟩
  have d1 : Cells ((w.alloc (.cells #[.int .u8 0, .int .u16 0, .bool false, .int .u8 0, .int .u8 0, .int .u32 0, .int .u32 0, .string { data := #[] }] 127)).drewN n1) w.heap.size #[.int .u8 0, .int .u16 0, .bool false, .int .u8 0, .int .u8 0, .int .u32 0, .int .u32 0, .string { data := #[] }] 127 := d0
  have b1 : Below w.heap.size w ((w.alloc (.cells #[.int .u8 0, .int .u16 0, .bool false, .int .u8 0, .int .u8 0, .int .u32 0, .int .u32 0, .string { data := #[] }] 127)).drewN n1) := below_drewN (fresh_below _ _) n1
  clear d0
  generalize ((w.alloc (.cells #[.int .u8 0, .int .u16 0, .bool false, .int .u8 0, .int .u8 0, .int .u32 0, .int .u32 0, .string { data := #[] }] 127)).drewN n1) = w1 at *
  have xd1_0 : w1.cell? ⟨w.heap.size, 0, none⟩ = some (.int .u8 0) := d1.at_ 0
  have xd1_1 : w1.cell? ⟨w.heap.size, 1, none⟩ = some (.int .u16 0) := d1.at_ 1
  have xd1_2 : w1.cell? ⟨w.heap.size, 2, none⟩ = some (.bool false) := d1.at_ 2
  have xd1_3 : w1.cell? ⟨w.heap.size, 3, none⟩ = some (.int .u8 0) := d1.at_ 3
  have xd1_4 : w1.cell? ⟨w.heap.size, 4, none⟩ = some (.int .u8 0) := d1.at_ 4
  have xd1_5 : w1.cell? ⟨w.heap.size, 5, none⟩ = some (.int .u32 0) := d1.at_ 5
  have xd1_6 : w1.cell? ⟨w.heap.size, 6, none⟩ = some (.int .u32 0) := d1.at_ 6
  have xd1_7 : w1.cell? ⟨w.heap.size, 7, none⟩ = some (.string { data := #[] }) := d1.at_ 7
  have yd1_0 : w1.frozen? ⟨w.heap.size, 0, none⟩ = false := d1.free 0
  have yd1_1 : w1.frozen? ⟨w.heap.size, 1, none⟩ = false := d1.free 1
  have yd1_2 : w1.frozen? ⟨w.heap.size, 2, none⟩ = false := d1.free 2
  have yd1_3 : w1.frozen? ⟨w.heap.size, 3, none⟩ = false := d1.free 3
  have yd1_4 : w1.frozen? ⟨w.heap.size, 4, none⟩ = false := d1.free 4
  have yd1_5 : w1.frozen? ⟨w.heap.size, 5, none⟩ = false := d1.free 5
  have yd1_6 : w1.frozen? ⟨w.heap.size, 6, none⟩ = false := d1.free 6
  have yd1_7 : w1.frozen? ⟨w.heap.size, 7, none⟩ = false := d1.free 7
  go_wp2_with fail
  have r5 := (Cells.put8 d1 (.int .u8 0) (.int .u16 0) (.bool false) (.int .u8 0) (.int .u8 0) (.int .u32 0) (.int .u32 0) (.string { data := #[] }))
  have b5 := (Below.put8 b1 (b := w.heap.size) (by first | exact Nat.le_refl _ | omega) (.int .u8 0) (.int .u16 0) (.bool false) (.int .u8 0) (.int .u8 0) (.int .u32 0) (.int .u32 0) (.string { data := #[] }))
  have HR5 := hide r5; have HB5 := hide b5
  clear r5 b5 d1
  generalize ((((((((w1.setCell ⟨w.heap.size, 0, none⟩ (.int .u8 0)).setCell ⟨w.heap.size, 1, none⟩ (.int .u16 0)).setCell ⟨w.heap.size, 2, none⟩ (.bool false)).setCell ⟨w.heap.size, 3, none⟩ (.int .u8 0)).setCell ⟨w.heap.size, 4, none⟩ (.int .u8 0)).setCell ⟨w.heap.size, 5, none⟩ (.int .u32 0)).setCell ⟨w.heap.size, 6, none⟩ (.int .u32 0)).setCell ⟨w.heap.size, 7, none⟩ (.string { data := #[] })) = W5 at *
  have r5 := HR5.out; have b5 := HB5.out
  clear HR5 HB5
  have xr5_0 : W5.cell? ⟨w.heap.size, 0, none⟩ = some (.int .u8 0) := r5.at_ 0
  have xr5_1 : W5.cell? ⟨w.heap.size, 1, none⟩ = some (.int .u16 0) := r5.at_ 1
  have xr5_2 : W5.cell? ⟨w.heap.size, 2, none⟩ = some (.bool false) := r5.at_ 2
  have xr5_3 : W5.cell? ⟨w.heap.size, 3, none⟩ = some (.int .u8 0) := r5.at_ 3
  have xr5_4 : W5.cell? ⟨w.heap.size, 4, none⟩ = some (.int .u8 0) := r5.at_ 4
  have xr5_5 : W5.cell? ⟨w.heap.size, 5, none⟩ = some (.int .u32 0) := r5.at_ 5
  have xr5_6 : W5.cell? ⟨w.heap.size, 6, none⟩ = some (.int .u32 0) := r5.at_ 6
  have xr5_7 : W5.cell? ⟨w.heap.size, 7, none⟩ = some (.string { data := #[] }) := r5.at_ 7
  (try simp only [Exit.inBlock, Exit.then]); refine bodyPost_ret (by simp [results, Tryz.results55, go_sem, *]; try rfl) rfl ?_
  exact ⟨rfl, b5⟩
end Go.Proofs.YtedfdphapcanoaaGreatDoor
end
