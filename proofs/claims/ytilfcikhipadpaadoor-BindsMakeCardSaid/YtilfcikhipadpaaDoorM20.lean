/- Several texts of this claim, one behind the other. -/
import Derived.Test.YtilfcikhipadpaaDoorM19
import Derived.Deep.CutRange

section
/- binds: whether an entry may be: entries.Check, and the document's. -/
set_option linter.unusedVariables false
set_option linter.unusedSimpArgs false
namespace Go.Proofs.YtilfcikhipadpaaDoor
open Go.RowKit Go.Lib
attribute [local go_sem] Oper.semAt_some

structure Ent.Ok (x : Ent) : Prop where
  op : 0 ≤ x.o.p ∧ x.o.p ≤ 255
  rp : 0 ≤ x.r.p ∧ x.r.p ≤ 255
/-- a protocol's word -/
def wordS (p : Int) : ByteArray := if p = 1 then { data := #[105, 99, 109, 112] } else if p = 6 then { data := #[116, 99, 112] } else if p = 17 then { data := #[117, 100, 112] } else { data := #[] }
theorem d_word (w : World) (p : Int) : Calls Tryd.prog 40 #[.int .u8 p] w (Ret (.string (wordS p)) w) := by
  unfold wordS
  have bb : Below w.heap.size w w := Below.refl _ _
  by_cases h1 : p = 1
  · subst h1
    go_enter Tryd.func40, Tryd.ntmps40
    go_wp2_with fail
    go_ret
    exact ⟨by first | rfl | simp, by assumption⟩
  by_cases h6 : p = 6
  · subst h6
    go_enter Tryd.func40, Tryd.ntmps40
    go_wp2_with fail
    go_ret
    exact ⟨by first | rfl | simp, by assumption⟩
  by_cases h17 : p = 17
  · subst h17
    go_enter Tryd.func40, Tryd.ntmps40
    go_wp2_with fail
    go_ret
    exact ⟨by first | rfl | simp, by assumption⟩
  have q1 : (p == 1) = false := by simpa using h1
  have q6 : (p == 6) = false := by simpa using h6
  have q17 : (p == 17) = false := by simpa using h17
  rw [if_neg h1, if_neg h6, if_neg h17]
  clear h1 h6 h17
  go_enter Tryd.func40, Tryd.ntmps40
  go_wp2_with fail
  go_ret
  exact ⟨by first | rfl | simp, by assumption⟩
set_option maxHeartbeats 2000000 in
theorem d_tMay (w : World) (p a b c d : Int) : Calls Tryd.prog 27 #[.agg #[.int .u8 p, .int .u32 a, .int .u16 b, .int .u32 c, .int .u16 d]] w (Ret (.bool (tupMay p b d)) w) := by
  have cw := fun W => d_word W p
  unfold tupMay isProto
  unfold wordS at cw
  obtain ⟨x3, q3⟩ : ∃ x3, (b == 0) = x3 := ⟨_, rfl⟩
  obtain ⟨x4, q4⟩ : ∃ x4, (d == 0) = x4 := ⟨_, rfl⟩
  rw [q3, q4]
  by_cases h1 : p = 1
  · subst h1
    simp only [if_true] at cw
    have CW := hide cw
    clear cw
    cases x3 <;> cases x4
    all_goals
      go_enter Tryd.func27, Tryd.ntmps27
      have d0 := Cells.new w #[.int .u8 1, .int .u32 a, .int .u16 b, .int .u32 c, .int .u16 d] 28
      have l0 : Below w.heap.size w (w.alloc (.cells #[.int .u8 1, .int .u32 a, .int .u16 b, .int .u32 c, .int .u16 d] 28)) := (fresh_below _ _)
      have L0 := hide l0; have D0 := hide d0
      clear l0 d0
      go_upto_region 1 with fail
      have l0 := L0.out; have d0 := D0.out
      clear L0 D0
      generalize (w.alloc (.cells #[.int .u8 1, .int .u32 a, .int .u16 b, .int .u32 c, .int .u16 d] 28)) = w1 at *
      have qd0_0 : ∀ W', Below w1.heap.size w1 W' → World.cell? W' ⟨w.heap.size, 0, none⟩ = some (.int .u8 1) := fun W' h => Cells.at_ (Cells.below h d0) 0
      have qd0_1 : ∀ W', Below w1.heap.size w1 W' → World.cell? W' ⟨w.heap.size, 1, none⟩ = some (.int .u32 a) := fun W' h => Cells.at_ (Cells.below h d0) 1
      have qd0_2 : ∀ W', Below w1.heap.size w1 W' → World.cell? W' ⟨w.heap.size, 2, none⟩ = some (.int .u16 b) := fun W' h => Cells.at_ (Cells.below h d0) 2
      have qd0_3 : ∀ W', Below w1.heap.size w1 W' → World.cell? W' ⟨w.heap.size, 3, none⟩ = some (.int .u32 c) := fun W' h => Cells.at_ (Cells.below h d0) 3
      have qd0_4 : ∀ W', Below w1.heap.size w1 W' → World.cell? W' ⟨w.heap.size, 4, none⟩ = some (.int .u16 d) := fun W' h => Cells.at_ (Cells.below h d0) 4
      have bb : Below w1.heap.size w1 w1 := Below.refl _ _
      have L0 := hide l0; have D0 := hide d0
      clear l0 d0
      go_wp2_with (go_at_call 40; (with_reducible refine (CW.out _).mono ?_); rintro e2 w2 ⟨rfl, b2⟩; have b2' := bstep (by assumption : Below w1.heap.size w1 _) b2; clear b2)
      go_ret
      exact ⟨by first | rfl | simp, bstep L0.out (by assumption)⟩
  by_cases h6 : p = 6
  · subst h6
    rw [if_neg (by decide), if_pos rfl] at cw
    have CW := hide cw
    clear cw q3 q4 h1
    go_enter Tryd.func27, Tryd.ntmps27
    have d0 := Cells.new w #[.int .u8 6, .int .u32 a, .int .u16 b, .int .u32 c, .int .u16 d] 28
    have l0 : Below w.heap.size w (w.alloc (.cells #[.int .u8 6, .int .u32 a, .int .u16 b, .int .u32 c, .int .u16 d] 28)) := (fresh_below _ _)
    have L0 := hide l0; have D0 := hide d0
    clear l0 d0
    go_upto_region 1 with fail
    have l0 := L0.out; have d0 := D0.out
    clear L0 D0
    generalize (w.alloc (.cells #[.int .u8 6, .int .u32 a, .int .u16 b, .int .u32 c, .int .u16 d] 28)) = w1 at *
    have qd0_0 : ∀ W', Below w1.heap.size w1 W' → World.cell? W' ⟨w.heap.size, 0, none⟩ = some (.int .u8 6) := fun W' h => Cells.at_ (Cells.below h d0) 0
    have qd0_1 : ∀ W', Below w1.heap.size w1 W' → World.cell? W' ⟨w.heap.size, 1, none⟩ = some (.int .u32 a) := fun W' h => Cells.at_ (Cells.below h d0) 1
    have qd0_2 : ∀ W', Below w1.heap.size w1 W' → World.cell? W' ⟨w.heap.size, 2, none⟩ = some (.int .u16 b) := fun W' h => Cells.at_ (Cells.below h d0) 2
    have qd0_3 : ∀ W', Below w1.heap.size w1 W' → World.cell? W' ⟨w.heap.size, 3, none⟩ = some (.int .u32 c) := fun W' h => Cells.at_ (Cells.below h d0) 3
    have qd0_4 : ∀ W', Below w1.heap.size w1 W' → World.cell? W' ⟨w.heap.size, 4, none⟩ = some (.int .u16 d) := fun W' h => Cells.at_ (Cells.below h d0) 4
    have bb : Below w1.heap.size w1 w1 := Below.refl _ _
    have L0 := hide l0; have D0 := hide d0
    clear l0 d0
    go_wp2_with (go_at_call 40; (with_reducible refine (CW.out _).mono ?_); rintro e2 w2 ⟨rfl, b2⟩; have b2' := bstep (by assumption : Below w1.heap.size w1 _) b2; clear b2)
    go_ret
    exact ⟨by first | rfl | simp, bstep L0.out (by assumption)⟩
  by_cases h17 : p = 17
  · subst h17
    rw [if_neg (by decide), if_neg (by decide), if_pos rfl] at cw
    have CW := hide cw
    clear cw q3 q4 h1 h6
    go_enter Tryd.func27, Tryd.ntmps27
    have d0 := Cells.new w #[.int .u8 17, .int .u32 a, .int .u16 b, .int .u32 c, .int .u16 d] 28
    have l0 : Below w.heap.size w (w.alloc (.cells #[.int .u8 17, .int .u32 a, .int .u16 b, .int .u32 c, .int .u16 d] 28)) := (fresh_below _ _)
    have L0 := hide l0; have D0 := hide d0
    clear l0 d0
    go_upto_region 1 with fail
    have l0 := L0.out; have d0 := D0.out
    clear L0 D0
    generalize (w.alloc (.cells #[.int .u8 17, .int .u32 a, .int .u16 b, .int .u32 c, .int .u16 d] 28)) = w1 at *
    have qd0_0 : ∀ W', Below w1.heap.size w1 W' → World.cell? W' ⟨w.heap.size, 0, none⟩ = some (.int .u8 17) := fun W' h => Cells.at_ (Cells.below h d0) 0
    have qd0_1 : ∀ W', Below w1.heap.size w1 W' → World.cell? W' ⟨w.heap.size, 1, none⟩ = some (.int .u32 a) := fun W' h => Cells.at_ (Cells.below h d0) 1
    have qd0_2 : ∀ W', Below w1.heap.size w1 W' → World.cell? W' ⟨w.heap.size, 2, none⟩ = some (.int .u16 b) := fun W' h => Cells.at_ (Cells.below h d0) 2
    have qd0_3 : ∀ W', Below w1.heap.size w1 W' → World.cell? W' ⟨w.heap.size, 3, none⟩ = some (.int .u32 c) := fun W' h => Cells.at_ (Cells.below h d0) 3
    have qd0_4 : ∀ W', Below w1.heap.size w1 W' → World.cell? W' ⟨w.heap.size, 4, none⟩ = some (.int .u16 d) := fun W' h => Cells.at_ (Cells.below h d0) 4
    have bb : Below w1.heap.size w1 w1 := Below.refl _ _
    have L0 := hide l0; have D0 := hide d0
    clear l0 d0
    go_wp2_with (go_at_call 40; (with_reducible refine (CW.out _).mono ?_); rintro e2 w2 ⟨rfl, b2⟩; have b2' := bstep (by assumption : Below w1.heap.size w1 _) b2; clear b2)
    go_ret
    exact ⟨by first | rfl | simp, bstep L0.out (by assumption)⟩
  rw [if_neg h1, if_neg h6, if_neg h17] at cw
  have e : (p == 1 || (p == 6 || p == 17)) = false := by simp [h1, h6, h17]
  rw [e, Bool.false_and]
  have CW := hide cw
  clear cw q3 q4 h1 h6 h17 e
  go_enter Tryd.func27, Tryd.ntmps27
  have d0 := Cells.new w #[.int .u8 p, .int .u32 a, .int .u16 b, .int .u32 c, .int .u16 d] 28
  have l0 : Below w.heap.size w (w.alloc (.cells #[.int .u8 p, .int .u32 a, .int .u16 b, .int .u32 c, .int .u16 d] 28)) := (fresh_below _ _)
  have L0 := hide l0; have D0 := hide d0
  clear l0 d0
  go_upto_region 1 with fail
  have l0 := L0.out; have d0 := D0.out
  clear L0 D0
  generalize (w.alloc (.cells #[.int .u8 p, .int .u32 a, .int .u16 b, .int .u32 c, .int .u16 d] 28)) = w1 at *
  have qd0_0 : ∀ W', Below w1.heap.size w1 W' → World.cell? W' ⟨w.heap.size, 0, none⟩ = some (.int .u8 p) := fun W' h => Cells.at_ (Cells.below h d0) 0
  have qd0_1 : ∀ W', Below w1.heap.size w1 W' → World.cell? W' ⟨w.heap.size, 1, none⟩ = some (.int .u32 a) := fun W' h => Cells.at_ (Cells.below h d0) 1
  have qd0_2 : ∀ W', Below w1.heap.size w1 W' → World.cell? W' ⟨w.heap.size, 2, none⟩ = some (.int .u16 b) := fun W' h => Cells.at_ (Cells.below h d0) 2
  have qd0_3 : ∀ W', Below w1.heap.size w1 W' → World.cell? W' ⟨w.heap.size, 3, none⟩ = some (.int .u32 c) := fun W' h => Cells.at_ (Cells.below h d0) 3
  have qd0_4 : ∀ W', Below w1.heap.size w1 W' → World.cell? W' ⟨w.heap.size, 4, none⟩ = some (.int .u16 d) := fun W' h => Cells.at_ (Cells.below h d0) 4
  have bb : Below w1.heap.size w1 w1 := Below.refl _ _
  have L0 := hide l0; have D0 := hide d0
  clear l0 d0
  go_wp2_with (go_at_call 40; (with_reducible refine (CW.out _).mono ?_); rintro e2 w2 ⟨rfl, b2⟩; have b2' := bstep (by assumption : Below w1.heap.size w1 _) b2; clear b2)
  go_ret
  exact ⟨by first | rfl | simp, bstep L0.out (by assumption)⟩
theorem d_Flow (w : World) (p : Int) : Calls Tryd.prog 19 #[.int .u8 p] w (Ret (.int .i64 (flowV p)) w) := by
  unfold flowV
  have bb : Below w.heap.size w w := Below.refl _ _
  by_cases h17 : p = 17
  · subst h17
    go_enter Tryd.func19, Tryd.ntmps19
    go_wp2_with fail
    go_ret
    exact ⟨by first | rfl | simp, by assumption⟩
  by_cases h1 : p = 1
  · subst h1
    go_enter Tryd.func19, Tryd.ntmps19
    go_wp2_with fail
    go_ret
    exact ⟨by first | rfl | simp, by assumption⟩
  by_cases h6 : p = 6
  · subst h6
    go_enter Tryd.func19, Tryd.ntmps19
    go_wp2_with fail
    go_ret
    exact ⟨by first | rfl | simp, by assumption⟩
  have q17 : (p == 17) = false := by simpa using h17
  have q1 : (p == 1) = false := by simpa using h1
  have q6 : (p == 6) = false := by simpa using h6
  rw [if_neg h1, if_neg h6, if_neg h17]
  clear h17 h1 h6
  go_enter Tryd.func19, Tryd.ntmps19
  go_wp2_with fail
  go_ret
  exact ⟨by first | rfl | simp, by assumption⟩
set_option maxHeartbeats 2000000 in
theorem d_Timeout (w : World) (fl st : Int) : Calls Tryd.prog 18 #[.int .i64 fl, .int .i64 st] w (Ret (.int .i64 (timeV fl st)) w) := by
  obtain ⟨t, ht⟩ : ∃ t, t = timeV fl st := ⟨_, rfl⟩
  rw [← ht]
  unfold timeV at ht
  have bb : Below w.heap.size w w := Below.refl _ _
  by_cases s1 : st = 1
  · subst s1
    by_cases f1 : fl = 1
    · subst f1
      have e : t = 120 := by rw [ht]; (repeat' split) <;> omega
      subst e
      clear ht 
      go_enter Tryd.func18, Tryd.ntmps18
      go_wp2_with fail
      go_ret
      exact ⟨by first | rfl | simp, by assumption⟩
    by_cases f2 : fl = 2
    · subst f2
      have e : t = 60 := by rw [ht]; (repeat' split) <;> omega
      subst e
      clear ht 
      go_enter Tryd.func18, Tryd.ntmps18
      go_wp2_with fail
      go_ret
      exact ⟨by first | rfl | simp, by assumption⟩
    by_cases f3 : fl = 3
    · subst f3
      have e : t = 240 := by rw [ht]; (repeat' split) <;> omega
      subst e
      clear ht 
      go_enter Tryd.func18, Tryd.ntmps18
      go_wp2_with fail
      go_ret
      exact ⟨by first | rfl | simp, by assumption⟩
    have g1 : (fl == 1) = false := by simpa using f1
    have g2 : (fl == 2) = false := by simpa using f2
    have g3 : (fl == 3) = false := by simpa using f3
    have g4 : (fl != 3) = true := by simpa using f3
    have e : t = 0 := by rw [ht, if_neg f1, if_neg f2, if_neg f3]
    subst e
    clear ht f1 f2 f3
    go_enter Tryd.func18, Tryd.ntmps18
    go_wp2_with fail
    go_ret
    exact ⟨rfl, by assumption⟩
  by_cases s2 : st = 2
  · subst s2
    by_cases f1 : fl = 1
    · subst f1
      have e : t = 300 := by rw [ht]; (repeat' split) <;> omega
      subst e
      clear ht 
      go_enter Tryd.func18, Tryd.ntmps18
      go_wp2_with fail
      go_ret
      exact ⟨by first | rfl | simp, by assumption⟩
    by_cases f2 : fl = 2
    · subst f2
      have e : t = 60 := by rw [ht]; (repeat' split) <;> omega
      subst e
      clear ht 
      go_enter Tryd.func18, Tryd.ntmps18
      go_wp2_with fail
      go_ret
      exact ⟨by first | rfl | simp, by assumption⟩
    by_cases f3 : fl = 3
    · subst f3
      have e : t = 240 := by rw [ht]; (repeat' split) <;> omega
      subst e
      clear ht 
      go_enter Tryd.func18, Tryd.ntmps18
      go_wp2_with fail
      go_ret
      exact ⟨by first | rfl | simp, by assumption⟩
    have g1 : (fl == 1) = false := by simpa using f1
    have g2 : (fl == 2) = false := by simpa using f2
    have g3 : (fl == 3) = false := by simpa using f3
    have g4 : (fl != 3) = true := by simpa using f3
    have e : t = 0 := by rw [ht, if_neg f1, if_neg f2, if_neg f3]
    subst e
    clear ht f1 f2 f3
    go_enter Tryd.func18, Tryd.ntmps18
    go_wp2_with fail
    go_ret
    exact ⟨rfl, by assumption⟩
  have u1 : (st == 1) = false := by simpa using s1
  have u2 : (st == 2) = false := by simpa using s2
  by_cases f3 : fl = 3
  · subst f3
    by_cases s3 : st = 3
    · subst s3
      have e : t = 7440 := by rw [ht]; (repeat' split) <;> omega
      subst e
      clear ht 
      go_enter Tryd.func18, Tryd.ntmps18
      go_wp2_with fail
      go_ret
      exact ⟨by first | rfl | simp, by assumption⟩
    have u3 : (st == 3) = false := by simpa using s3
    by_cases lo : st < 1
    · have e : t = 0 := by rw [ht, if_neg (by decide), if_neg (by decide), if_pos rfl, if_neg s3, if_neg (by omega)]
      subst e
      clear ht s1 s2 s3
      go_enter Tryd.func18, Tryd.ntmps18
      go_wp2_with fail
      go_ret
      exact ⟨rfl, by assumption⟩
    by_cases hi : 7 < st
    · have e : t = 0 := by rw [ht, if_neg (by decide), if_neg (by decide), if_pos rfl, if_neg s3, if_neg (by omega)]
      subst e
      clear ht s1 s2 s3
      go_enter Tryd.func18, Tryd.ntmps18
      go_wp2_with fail
      go_ret
      exact ⟨rfl, by assumption⟩
    have e : t = 240 := by rw [ht, if_neg (by decide), if_neg (by decide), if_pos rfl, if_neg s3, if_pos (by omega)]
    subst e
    clear ht s1 s2 s3
    go_enter Tryd.func18, Tryd.ntmps18
    go_wp2_with fail
    go_ret
    exact ⟨rfl, by assumption⟩
  have g3 : (fl != 3) = true := by simpa using f3
  have e : t = 0 := by rw [ht]; (repeat' split) <;> omega
  subst e
  clear ht s1 s2 f3
  go_enter Tryd.func18, Tryd.ntmps18
  go_wp2_with fail
  go_ret
  exact ⟨rfl, by assumption⟩
theorem sameT_eq {x y : Btw} (h : sameT x y = true) : x = y := by
  obtain ⟨a, b, c, d, e⟩ := x
  obtain ⟨a', b', c', d', e'⟩ := y
  simp only [sameT, Bool.and_eq_true, beq_iff_eq] at h
  obtain ⟨rfl, rfl, rfl, rfl, rfl⟩ := h
  rfl
theorem sameT_refl (x : Btw) : sameT x x = true := by simp [sameT]
theorem sameT_no {x y : Btw} (h : sameT x y = false) : (x.p == y.p) = false ∨ (x.si == y.si) = false ∨ (x.sp == y.sp) = false ∨ (x.di == y.di) = false ∨ (x.dp == y.dp) = false := by
  unfold sameT at h
  cases h1 : x.p == y.p <;> cases h2 : x.si == y.si <;> cases h3 : x.sp == y.sp <;> cases h4 : x.di == y.di <;> cases h5 : x.dp == y.dp <;> simp_all
set_option maxHeartbeats 8000000 in
set_option maxRecDepth 100000 in
theorem e_Check (w : World) (x : Ent) (A : Option Addr) (n c : Nat) (hn : n = x.hs.length) (hn6 : n ≤ 1000) (hx : x.Ok) (HW : Wds w) (HT : Lasts w) : Calls Tryd.prog 17 #[.agg #[.int .u8 x.o.p, .int .u32 x.o.si, .int .u16 x.o.sp, .int .u32 x.o.di, .int .u16 x.o.dp, .int .u8 x.r.p, .int .u32 x.r.si, .int .u16 x.r.sp, .int .u32 x.r.di, .int .u16 x.r.dp, .int .i64 x.st, .int .i64 x.dl, .slice A n c]] w (Ret (.int .i64 (if entMay x = true then 0 else 2)) w) := by
  have c1 := fun W (hW : Below w.heap.size w W) => tu_May W x.o.p x.o.si x.o.sp x.o.di x.o.dp (HW.below hW) hx.op
  have c2 := fun W (hW : Below w.heap.size w W) => tu_May W x.r.p x.r.si x.r.sp x.r.di x.r.dp (HW.below hW) hx.rp
  have c3 := fun W => tk_Flow W x.o.p
  have c4 := fun W (hW : Below w.heap.size w W) => tk_May W (flowV x.o.p) x.st (HT.below hW)
  unfold entMay
  rw [← hn]
  obtain ⟨RV, hRV⟩ : ∃ RV, RV = (if (tupMay x.o.p x.o.sp x.o.dp && (tupMay x.r.p x.r.sp x.r.dp && (!sameT x.o x.r && (x.o.p == x.r.p && (decide (0 < timeV (flowV x.o.p) x.st) && (decide (0 ≤ x.dl) && (decide (x.dl ≤ 1099511635216) && (decide (1 ≤ n) && decide (n ≤ 2))))))))) = true then (0 : Int) else 2) := ⟨_, rfl⟩
  rw [← hRV]
  obtain ⟨x1, h1⟩ : ∃ x1, tupMay x.o.p x.o.sp x.o.dp = x1 := ⟨_, rfl⟩
  obtain ⟨x2, h2⟩ : ∃ x2, tupMay x.r.p x.r.sp x.r.dp = x2 := ⟨_, rfl⟩
  obtain ⟨x3, h3⟩ : ∃ x3, sameT x.o x.r = x3 := ⟨_, rfl⟩
  obtain ⟨x4, h4⟩ : ∃ x4, (x.o.p == x.r.p) = x4 := ⟨_, rfl⟩
  obtain ⟨tv, htv⟩ : ∃ tv, timeV (flowV x.o.p) x.st = tv := ⟨_, rfl⟩
  have ht0 : 0 ≤ tv := by rw [← htv]; exact (timeV_bd _ _).1
  rw [h1] at c1
  rw [h2] at c2
  rw [htv] at c4
  obtain ⟨dl, hdl⟩ : ∃ dl, x.dl = dl := ⟨_, rfl⟩
  rw [h1, h2, h3, h4, htv, hdl] at hRV
  rw [hdl]
  have C1 := hide c1; have C2 := hide c2; have C3 := hide c3; have C4 := hide c4; have HRV := hide hRV
  clear c1 c2 c3 c4 h1 h2 htv hRV hx HW HT
  have HN := hide hn6; have HH3 := hide h3; have HH4 := hide h4; have HT0 := hide ht0; clear hn6 hn h3 h4 ht0
  go_enter Tryd.func17, Tryd.ntmps17
  have d0 := Cells.new w #[.int .u8 x.o.p, .int .u32 x.o.si, .int .u16 x.o.sp, .int .u32 x.o.di, .int .u16 x.o.dp, .int .u8 x.r.p, .int .u32 x.r.si, .int .u16 x.r.sp, .int .u32 x.r.di, .int .u16 x.r.dp, .int .i64 x.st, .int .i64 dl, .slice A n c] 45
  have l0 : Below w.heap.size w (w.alloc (.cells #[.int .u8 x.o.p, .int .u32 x.o.si, .int .u16 x.o.sp, .int .u32 x.o.di, .int .u16 x.o.dp, .int .u8 x.r.p, .int .u32 x.r.si, .int .u16 x.r.sp, .int .u32 x.r.di, .int .u16 x.r.dp, .int .i64 x.st, .int .i64 dl, .slice A n c] 45)) := (fresh_below _ _)
  have L0 := hide l0; have D0 := hide d0
  clear l0 d0
  go_upto_region 1 with fail
  have l0 := L0.out; have d0 := D0.out
  clear L0 D0
  generalize (w.alloc (.cells #[.int .u8 x.o.p, .int .u32 x.o.si, .int .u16 x.o.sp, .int .u32 x.o.di, .int .u16 x.o.dp, .int .u8 x.r.p, .int .u32 x.r.si, .int .u16 x.r.sp, .int .u32 x.r.di, .int .u16 x.r.dp, .int .i64 x.st, .int .i64 dl, .slice A n c] 45)) = w1 at *
  have qd0_0 : ∀ W', Below w1.heap.size w1 W' → World.cell? W' ⟨w.heap.size, 0, none⟩ = some (.int .u8 x.o.p) := fun W' h => Cells.at_ (Cells.below h d0) 0
  have qd0_1 : ∀ W', Below w1.heap.size w1 W' → World.cell? W' ⟨w.heap.size, 1, none⟩ = some (.int .u32 x.o.si) := fun W' h => Cells.at_ (Cells.below h d0) 1
  have qd0_2 : ∀ W', Below w1.heap.size w1 W' → World.cell? W' ⟨w.heap.size, 2, none⟩ = some (.int .u16 x.o.sp) := fun W' h => Cells.at_ (Cells.below h d0) 2
  have qd0_3 : ∀ W', Below w1.heap.size w1 W' → World.cell? W' ⟨w.heap.size, 3, none⟩ = some (.int .u32 x.o.di) := fun W' h => Cells.at_ (Cells.below h d0) 3
  have qd0_4 : ∀ W', Below w1.heap.size w1 W' → World.cell? W' ⟨w.heap.size, 4, none⟩ = some (.int .u16 x.o.dp) := fun W' h => Cells.at_ (Cells.below h d0) 4
  have qd0_5 : ∀ W', Below w1.heap.size w1 W' → World.cell? W' ⟨w.heap.size, 5, none⟩ = some (.int .u8 x.r.p) := fun W' h => Cells.at_ (Cells.below h d0) 5
  have qd0_6 : ∀ W', Below w1.heap.size w1 W' → World.cell? W' ⟨w.heap.size, 6, none⟩ = some (.int .u32 x.r.si) := fun W' h => Cells.at_ (Cells.below h d0) 6
  have qd0_7 : ∀ W', Below w1.heap.size w1 W' → World.cell? W' ⟨w.heap.size, 7, none⟩ = some (.int .u16 x.r.sp) := fun W' h => Cells.at_ (Cells.below h d0) 7
  have qd0_8 : ∀ W', Below w1.heap.size w1 W' → World.cell? W' ⟨w.heap.size, 8, none⟩ = some (.int .u32 x.r.di) := fun W' h => Cells.at_ (Cells.below h d0) 8
  have qd0_9 : ∀ W', Below w1.heap.size w1 W' → World.cell? W' ⟨w.heap.size, 9, none⟩ = some (.int .u16 x.r.dp) := fun W' h => Cells.at_ (Cells.below h d0) 9
  have qd0_10 : ∀ W', Below w1.heap.size w1 W' → World.cell? W' ⟨w.heap.size, 10, none⟩ = some (.int .i64 x.st) := fun W' h => Cells.at_ (Cells.below h d0) 10
  have qd0_11 : ∀ W', Below w1.heap.size w1 W' → World.cell? W' ⟨w.heap.size, 11, none⟩ = some (.int .i64 dl) := fun W' h => Cells.at_ (Cells.below h d0) 11
  have qd0_12 : ∀ W', Below w1.heap.size w1 W' → World.cell? W' ⟨w.heap.size, 12, none⟩ = some (.slice A n c) := fun W' h => Cells.at_ (Cells.below h d0) 12
  have bb : Below w1.heap.size w1 w1 := Below.refl _ _
  have L0 := hide l0; have D0 := hide d0
  clear l0 d0
  clear hdl
  cases x1
  · go_wp2_with (first | (go_at_call 25; (with_reducible refine (C1.out _ (bstep L0.out (by assumption))).mono ?_); rintro e2 w2 ⟨rfl, b2⟩; have b2' := bstep (by assumption : Below w1.heap.size w1 _) b2; clear b2) | (go_at_call 25; (with_reducible refine (C2.out _ (bstep L0.out (by assumption))).mono ?_); rintro e2 w2 ⟨rfl, b2⟩; have b2' := bstep (by assumption : Below w1.heap.size w1 _) b2; clear b2))
    go_ret
    exact ⟨Eq.symm (ret_int (by rw [HRV.out]; rfl)), bstep L0.out (by assumption)⟩
  cases x2
  · go_wp2_with (first | (go_at_call 25; (with_reducible refine (C1.out _ (bstep L0.out (by assumption))).mono ?_); rintro e2 w2 ⟨rfl, b2⟩; have b2' := bstep (by assumption : Below w1.heap.size w1 _) b2; clear b2) | (go_at_call 25; (with_reducible refine (C2.out _ (bstep L0.out (by assumption))).mono ?_); rintro e2 w2 ⟨rfl, b2⟩; have b2' := bstep (by assumption : Below w1.heap.size w1 _) b2; clear b2))
    go_ret
    exact ⟨Eq.symm (ret_int (by rw [HRV.out]; rfl)), bstep L0.out (by assumption)⟩
  cases x3
  rotate_left 1
  · have e := sameT_eq HH3.out
    have g0 : (x.o.p == x.r.p) = true := by rw [e]; simp
    have g1 : (x.o.si == x.r.si) = true := by rw [e]; simp
    have g2 : (x.o.sp == x.r.sp) = true := by rw [e]; simp
    have g3 : (x.o.di == x.r.di) = true := by rw [e]; simp
    have g4 : (x.o.dp == x.r.dp) = true := by rw [e]; simp
    clear e
    go_wp2_with (first | (go_at_call 25; (with_reducible refine (C1.out _ (bstep L0.out (by assumption))).mono ?_); rintro e2 w2 ⟨rfl, b2⟩; have b2' := bstep (by assumption : Below w1.heap.size w1 _) b2; clear b2) | (go_at_call 25; (with_reducible refine (C2.out _ (bstep L0.out (by assumption))).mono ?_); rintro e2 w2 ⟨rfl, b2⟩; have b2' := bstep (by assumption : Below w1.heap.size w1 _) b2; clear b2))
    go_ret
    exact ⟨Eq.symm (ret_int (by rw [HRV.out]; rfl)), bstep L0.out (by assumption)⟩
  cases x4
  · have g0 : (x.o.p != x.r.p) = true := by have := HH4.out; rw [bne, this]; rfl
    have g5 := HH4.out
    go_wp2_with (first | (go_at_call 25; (with_reducible refine (C1.out _ (bstep L0.out (by assumption))).mono ?_); rintro e2 w2 ⟨rfl, b2⟩; have b2' := bstep (by assumption : Below w1.heap.size w1 _) b2; clear b2) | (go_at_call 25; (with_reducible refine (C2.out _ (bstep L0.out (by assumption))).mono ?_); rintro e2 w2 ⟨rfl, b2⟩; have b2' := bstep (by assumption : Below w1.heap.size w1 _) b2; clear b2))
    go_ret
    exact ⟨Eq.symm (ret_int (by rw [HRV.out]; rfl)), bstep L0.out (by assumption)⟩
  have g0 := HH4.out
  have g5 : (x.o.p != x.r.p) = false := by rw [bne, g0]; rfl
  have hh := HH3.out
  unfold sameT at hh
  rw [g0, Bool.true_and] at hh
  obtain ⟨e1, g1⟩ : ∃ e, (x.o.si == x.r.si) = e := ⟨_, rfl⟩
  obtain ⟨e2, g2⟩ : ∃ e, (x.o.sp == x.r.sp) = e := ⟨_, rfl⟩
  obtain ⟨e3, g3⟩ : ∃ e, (x.o.di == x.r.di) = e := ⟨_, rfl⟩
  obtain ⟨e4, g4⟩ : ∃ e, (x.o.dp == x.r.dp) = e := ⟨_, rfl⟩
  rw [g1, g2, g3, g4] at hh
  have gg : e1 = false ∨ (e1 = true ∧ e2 = false) ∨ (e1 = true ∧ e2 = true ∧ e3 = false) ∨ (e1 = true ∧ e2 = true ∧ e3 = true ∧ e4 = false) := by revert hh; cases e1 <;> cases e2 <;> cases e3 <;> cases e4 <;> simp
  clear hh
  go_cut [3] from 4 to 29 (fun sc wc => sc = .bool false ∧ Aside (Below w1.heap.size w1 wc))
  case first =>
    rcases gg with rfl | ⟨rfl, rfl⟩ | ⟨rfl, rfl, rfl⟩ | ⟨rfl, rfl, rfl, rfl⟩
    all_goals
      go_wp2_with (first | (go_at_call 25; (with_reducible refine (C1.out _ (bstep L0.out (by assumption))).mono ?_); rintro e2 w2 ⟨rfl, b2⟩; have b2' := bstep (by assumption : Below w1.heap.size w1 _) b2; clear b2) | (go_at_call 25; (with_reducible refine (C2.out _ (bstep L0.out (by assumption))).mono ?_); rintro e2 w2 ⟨rfl, b2⟩; have b2' := bstep (by assumption : Below w1.heap.size w1 _) b2; clear b2))
      go_meet
      case rel => exact ⟨rfl, (show Aside _ from b2')⟩
  case rest =>
  obtain ⟨rfl, hbc⟩ := hcut
  obtain ⟨w2, hw2⟩ : ∃ w2, w2 = wc := ⟨_, rfl⟩
  rw [← hw2] at hbc ⊢
  have b2' := hbc.out
  clear hw2 hbc gg g0 g1 g2 g3 g4 g5
  go_upto_region 3 with fail
  by_cases ht : 0 < tv
  rotate_left 1
  · have D1 := hide (decide_eq_false ht)
    rw [D1.out] at C4
    clear ht
    have s3 : Below w1.heap.size w1 w2.drew := Below.drew b2'
    focus
      refine wp_region_J [] (fun W => Below w1.heap.size w1 W) (by kernel_rfl) (s3) (fun hS0 => ?_)
      refine wpAnyJ_take (i := 0) (v := ?v0_1) rfl (by kernel_rfl) (by kernel_rfl) (by kernel_rfl) (by kernel_rfl) (fun _ _ _ h => h) (Or.inl (And.intro (by kernel_rfl) ?q0_1)) hS0 ?r0_1; (case q0_1 => (intro w hx; (try dsimp only); (try go_simp); (try with_reducible rfl)))
      (try simp only [Act.put, List.setIfInBounds_toArray, List.set_cons_zero, List.set_cons_succ, List.getElem_toArray, List.getElem_cons_succ, List.getElem_cons_zero])
      refine wpAnyJ_take (i := 1) (v := ?v1_2) rfl (by kernel_rfl) (by kernel_rfl) (by kernel_rfl) (by kernel_rfl) (fun _ _ _ h => h) (Or.inl (And.intro (by kernel_rfl) ?q1_2)) hS0 ?r1_2; (case q1_2 => (intro w hx; (try dsimp only); (try go_simp); (try with_reducible rfl)))
      (try simp only [Act.put, List.setIfInBounds_toArray, List.set_cons_zero, List.set_cons_succ, List.getElem_toArray, List.getElem_cons_succ, List.getElem_cons_zero])
      refine wpAnyJ_take (i := 2) (v := ?v2_3) rfl (by kernel_rfl) (by kernel_rfl) (by kernel_rfl) (by kernel_rfl) (fun _ _ _ h => h) (Or.inl (And.intro (by kernel_rfl) ?q2_3)) hS0 ?r2_3; (case q2_3 => (intro w hx; (try dsimp only); (try go_simp); (try with_reducible rfl)))
      (try simp only [Act.put, List.setIfInBounds_toArray, List.set_cons_zero, List.set_cons_succ, List.getElem_toArray, List.getElem_cons_succ, List.getElem_cons_zero])
      refine wpAnyJ_take (i := 4) (v := ?v4_4) rfl (by kernel_rfl) (by kernel_rfl) (by kernel_rfl) (by kernel_rfl) (fun _ _ _ h => h) (Or.inl (And.intro (by kernel_rfl) ?q4_4)) hS0 ?r4_4; (case q4_4 => (intro w hx; (try dsimp only); (try go_simp); (try with_reducible rfl)))
      (try simp only [Act.put, List.setIfInBounds_toArray, List.set_cons_zero, List.set_cons_succ, List.getElem_toArray, List.getElem_cons_succ, List.getElem_cons_zero])
      refine wpAnyJ_take (i := 5) (v := ?v5_5) rfl (by kernel_rfl) (by kernel_rfl) (by kernel_rfl) (by kernel_rfl) (fun _ _ _ h => h) (Or.inl (And.intro (by kernel_rfl) ?q5_5)) hS0 ?r5_5; (case q5_5 => (intro w hx; (try dsimp only); (try go_simp); (try with_reducible rfl)))
      (try simp only [Act.put, List.setIfInBounds_toArray, List.set_cons_zero, List.set_cons_succ, List.getElem_toArray, List.getElem_cons_succ, List.getElem_cons_zero])
      refine wpAnyJ_ready (rs := [3]) (by kernel_rfl) (by simp) ?_
      refine (AllReadyJ.cons rfl (fun K hK => ?_) AllReadyJ.nil)
      rw [if_pos (by kernel_rfl)]
      (try simp only [List.getElem_toArray, List.getElem_cons_succ, List.getElem_cons_zero])
      (focus go_simp)
      (focus ((with_reducible refine (C3.out _).mono ?_); rintro e wq3 ⟨rfl, bq3⟩; have sq := bstep hS0 bq3))
      (focus (try go_wp2_with fail))
      refine hK.out _ _ ?hs (fun hS0 => ?_)
      case hs => (first | with_reducible exact hS0 | with_reducible exact sq)
      clear hK K
      (try simp only [Act.put, List.setIfInBounds_toArray, List.set_cons_zero, List.set_cons_succ, List.getElem_toArray, List.getElem_cons_succ, List.getElem_cons_zero])
      refine wpAnyJ_ready (rs := [6]) (by kernel_rfl) (by simp) ?_
      refine (AllReadyJ.cons rfl (fun K hK => ?_) AllReadyJ.nil)
      rw [if_pos (by kernel_rfl)]
      (try simp only [List.getElem_toArray, List.getElem_cons_succ, List.getElem_cons_zero])
      (focus go_simp)
      (focus ((with_reducible refine (C4.out _ (bstep L0.out hS0)).mono ?_); rintro e wq6 ⟨rfl, bq6⟩; have sq := bstep hS0 bq6))
      (focus (try go_wp2_with fail))
      refine hK.out _ _ ?hs (fun hS0 => ?_)
      case hs => (first | with_reducible exact hS0 | with_reducible exact sq)
      clear hK K
      (try simp only [Act.put, List.setIfInBounds_toArray, List.set_cons_zero, List.set_cons_succ, List.getElem_toArray, List.getElem_cons_succ, List.getElem_cons_zero])
      refine wpAnyJ_take (i := 7) (v := ?v7_6) rfl (by kernel_rfl) (by kernel_rfl) (by kernel_rfl) (by kernel_rfl) (fun _ _ _ h => h) (Or.inl (And.intro (by kernel_rfl) ?q7_6)) hS0 ?r7_6; (case q7_6 => (intro w hx; (try dsimp only); (try go_simp); (try with_reducible rfl)))
      (try simp only [Act.put, List.setIfInBounds_toArray, List.set_cons_zero, List.set_cons_succ, List.getElem_toArray, List.getElem_cons_succ, List.getElem_cons_zero])
      refine wpAnyJ_take (i := 8) (v := ?v8_7) rfl (by kernel_rfl) (by kernel_rfl) (by kernel_rfl) (by kernel_rfl) (fun _ _ _ h => h) (Or.inl (And.intro (by kernel_rfl) ?q8_7)) hS0 ?r8_7; (case q8_7 => (intro w hx; (try dsimp only); (try go_simp); (try with_reducible rfl)))
      (try simp only [Act.put, List.setIfInBounds_toArray, List.set_cons_zero, List.set_cons_succ, List.getElem_toArray, List.getElem_cons_succ, List.getElem_cons_zero])
      refine wpAnyJ_done (by kernel_rfl) ?_ _
    go_wp2_with fail
    go_ret
    exact ⟨Eq.symm (ret_int (by rw [HRV.out, D1.out]; rfl)), bstep L0.out (by assumption)⟩
  have D1 := hide (decide_eq_true ht)
  rw [D1.out] at C4
  clear ht
  have s3 : Below w1.heap.size w1 w2.drew := Below.drew b2'
  focus
    refine wp_region_J [] (fun W => Below w1.heap.size w1 W) (by kernel_rfl) (s3) (fun hS0 => ?_)
    refine wpAnyJ_take (i := 0) (v := ?v0_8) rfl (by kernel_rfl) (by kernel_rfl) (by kernel_rfl) (by kernel_rfl) (fun _ _ _ h => h) (Or.inl (And.intro (by kernel_rfl) ?q0_8)) hS0 ?r0_8; (case q0_8 => (intro w hx; (try dsimp only); (try go_simp); (try with_reducible rfl)))
    (try simp only [Act.put, List.setIfInBounds_toArray, List.set_cons_zero, List.set_cons_succ, List.getElem_toArray, List.getElem_cons_succ, List.getElem_cons_zero])
    refine wpAnyJ_take (i := 1) (v := ?v1_9) rfl (by kernel_rfl) (by kernel_rfl) (by kernel_rfl) (by kernel_rfl) (fun _ _ _ h => h) (Or.inl (And.intro (by kernel_rfl) ?q1_9)) hS0 ?r1_9; (case q1_9 => (intro w hx; (try dsimp only); (try go_simp); (try with_reducible rfl)))
    (try simp only [Act.put, List.setIfInBounds_toArray, List.set_cons_zero, List.set_cons_succ, List.getElem_toArray, List.getElem_cons_succ, List.getElem_cons_zero])
    refine wpAnyJ_take (i := 2) (v := ?v2_10) rfl (by kernel_rfl) (by kernel_rfl) (by kernel_rfl) (by kernel_rfl) (fun _ _ _ h => h) (Or.inl (And.intro (by kernel_rfl) ?q2_10)) hS0 ?r2_10; (case q2_10 => (intro w hx; (try dsimp only); (try go_simp); (try with_reducible rfl)))
    (try simp only [Act.put, List.setIfInBounds_toArray, List.set_cons_zero, List.set_cons_succ, List.getElem_toArray, List.getElem_cons_succ, List.getElem_cons_zero])
    refine wpAnyJ_take (i := 4) (v := ?v4_11) rfl (by kernel_rfl) (by kernel_rfl) (by kernel_rfl) (by kernel_rfl) (fun _ _ _ h => h) (Or.inl (And.intro (by kernel_rfl) ?q4_11)) hS0 ?r4_11; (case q4_11 => (intro w hx; (try dsimp only); (try go_simp); (try with_reducible rfl)))
    (try simp only [Act.put, List.setIfInBounds_toArray, List.set_cons_zero, List.set_cons_succ, List.getElem_toArray, List.getElem_cons_succ, List.getElem_cons_zero])
    refine wpAnyJ_take (i := 5) (v := ?v5_12) rfl (by kernel_rfl) (by kernel_rfl) (by kernel_rfl) (by kernel_rfl) (fun _ _ _ h => h) (Or.inl (And.intro (by kernel_rfl) ?q5_12)) hS0 ?r5_12; (case q5_12 => (intro w hx; (try dsimp only); (try go_simp); (try with_reducible rfl)))
    (try simp only [Act.put, List.setIfInBounds_toArray, List.set_cons_zero, List.set_cons_succ, List.getElem_toArray, List.getElem_cons_succ, List.getElem_cons_zero])
    refine wpAnyJ_ready (rs := [3]) (by kernel_rfl) (by simp) ?_
    refine (AllReadyJ.cons rfl (fun K hK => ?_) AllReadyJ.nil)
    rw [if_pos (by kernel_rfl)]
    (try simp only [List.getElem_toArray, List.getElem_cons_succ, List.getElem_cons_zero])
    (focus go_simp)
    (focus ((with_reducible refine (C3.out _).mono ?_); rintro e wq3 ⟨rfl, bq3⟩; have sq := bstep hS0 bq3))
    (focus (try go_wp2_with fail))
    refine hK.out _ _ ?hs (fun hS0 => ?_)
    case hs => (first | with_reducible exact hS0 | with_reducible exact sq)
    clear hK K
    (try simp only [Act.put, List.setIfInBounds_toArray, List.set_cons_zero, List.set_cons_succ, List.getElem_toArray, List.getElem_cons_succ, List.getElem_cons_zero])
    refine wpAnyJ_ready (rs := [6]) (by kernel_rfl) (by simp) ?_
    refine (AllReadyJ.cons rfl (fun K hK => ?_) AllReadyJ.nil)
    rw [if_pos (by kernel_rfl)]
    (try simp only [List.getElem_toArray, List.getElem_cons_succ, List.getElem_cons_zero])
    (focus go_simp)
    (focus ((with_reducible refine (C4.out _ (bstep L0.out hS0)).mono ?_); rintro e wq6 ⟨rfl, bq6⟩; have sq := bstep hS0 bq6))
    (focus (try go_wp2_with fail))
    refine hK.out _ _ ?hs (fun hS0 => ?_)
    case hs => (first | with_reducible exact hS0 | with_reducible exact sq)
    clear hK K
    (try simp only [Act.put, List.setIfInBounds_toArray, List.set_cons_zero, List.set_cons_succ, List.getElem_toArray, List.getElem_cons_succ, List.getElem_cons_zero])
    refine wpAnyJ_take (i := 7) (v := ?v7_13) rfl (by kernel_rfl) (by kernel_rfl) (by kernel_rfl) (by kernel_rfl) (fun _ _ _ h => h) (Or.inl (And.intro (by kernel_rfl) ?q7_13)) hS0 ?r7_13; (case q7_13 => (intro w hx; (try dsimp only); (try go_simp); (try with_reducible rfl)))
    (try simp only [Act.put, List.setIfInBounds_toArray, List.set_cons_zero, List.set_cons_succ, List.getElem_toArray, List.getElem_cons_succ, List.getElem_cons_zero])
    refine wpAnyJ_take (i := 8) (v := ?v8_14) rfl (by kernel_rfl) (by kernel_rfl) (by kernel_rfl) (by kernel_rfl) (fun _ _ _ h => h) (Or.inl (And.intro (by kernel_rfl) ?q8_14)) hS0 ?r8_14; (case q8_14 => (intro w hx; (try dsimp only); (try go_simp); (try with_reducible rfl)))
    (try simp only [Act.put, List.setIfInBounds_toArray, List.set_cons_zero, List.set_cons_succ, List.getElem_toArray, List.getElem_cons_succ, List.getElem_cons_zero])
    refine wpAnyJ_done (by kernel_rfl) ?_ _
  go_upto_region 5 with fail
  by_cases hd0 : 0 ≤ dl
  rotate_left 1
  · have D2 := hide (decide_eq_false hd0)
    go_wp2_with fail
    go_ret
    exact ⟨Eq.symm (ret_int (by rw [HRV.out, D1.out, D2.out]; rfl)), bstep L0.out (by assumption)⟩
  have D2 := hide (decide_eq_true hd0)
  by_cases hd1 : dl ≤ 1099511635216
  rotate_left 1
  · have D3 := hide (decide_eq_false hd1)
    go_wp2_with fail
    go_ret
    exact ⟨Eq.symm (ret_int (by rw [HRV.out, D1.out, D2.out, D3.out]; rfl)), bstep L0.out (by assumption)⟩
  have D3 := hide (decide_eq_true hd1)
  have hn6 := HN.out
  by_cases k1 : 1 ≤ n
  rotate_left 1
  · have D4 := hide (decide_eq_false k1)
    have e1 : (n : Int) < 1 := by omega
    clear k1
    go_wp2_with fail
    go_ret
    exact ⟨Eq.symm (ret_int (by rw [HRV.out, D1.out, D2.out, D3.out, D4.out]; rfl)), bstep L0.out (by assumption)⟩
  have e1 : ¬ (n : Int) < 1 := by omega
  have D4 := hide (decide_eq_true k1)
  by_cases k2 : n ≤ 2
  rotate_left 1
  · have D5 := hide (decide_eq_false k2)
    have e2 : (2 : Int) < (n : Int) := by omega
    clear k1 k2
    go_wp2_with fail
    go_ret
    exact ⟨Eq.symm (ret_int (by rw [HRV.out, D1.out, D2.out, D3.out, D4.out, D5.out]; rfl)), bstep L0.out (by assumption)⟩
  have e2 : ¬ (2 : Int) < (n : Int) := by omega
  have D5 := hide (decide_eq_true k2)
  clear k1 k2
  go_wp2_with fail
  go_ret
  exact ⟨Eq.symm (ret_int (by rw [HRV.out, D1.out, D2.out, D3.out, D4.out, D5.out]; rfl)), bstep L0.out (by assumption)⟩
set_option maxHeartbeats 8000000 in
set_option maxRecDepth 100000 in
theorem d_eMay (w : World) (x : Ent) (A : Option Addr) (n c : Nat) (hn : n = x.hs.length) (hn6 : n ≤ 1000) : Calls Tryd.prog 20 #[.agg #[.int .u8 x.o.p, .int .u32 x.o.si, .int .u16 x.o.sp, .int .u32 x.o.di, .int .u16 x.o.dp, .int .u8 x.r.p, .int .u32 x.r.si, .int .u16 x.r.sp, .int .u32 x.r.di, .int .u16 x.r.dp, .int .i64 x.st, .int .i64 x.dl, .slice A n c]] w (Ret (.bool (entMay x)) w) := by
  have c1 := fun W => d_tMay W x.o.p x.o.si x.o.sp x.o.di x.o.dp
  have c2 := fun W => d_tMay W x.r.p x.r.si x.r.sp x.r.di x.r.dp
  have c3 := fun W => d_Flow W x.o.p
  have c4 := fun W => d_Timeout W (flowV x.o.p) x.st
  unfold entMay
  rw [← hn]
  obtain ⟨RV, hRV⟩ : ∃ RV, RV = (tupMay x.o.p x.o.sp x.o.dp && (tupMay x.r.p x.r.sp x.r.dp && (!sameT x.o x.r && (x.o.p == x.r.p && (decide (0 < timeV (flowV x.o.p) x.st) && (decide (0 ≤ x.dl) && (decide (x.dl ≤ 1099511635216) && (decide (1 ≤ n) && decide (n ≤ 2))))))))) := ⟨_, rfl⟩
  rw [← hRV]
  obtain ⟨x1, h1⟩ : ∃ x1, tupMay x.o.p x.o.sp x.o.dp = x1 := ⟨_, rfl⟩
  obtain ⟨x2, h2⟩ : ∃ x2, tupMay x.r.p x.r.sp x.r.dp = x2 := ⟨_, rfl⟩
  obtain ⟨x3, h3⟩ : ∃ x3, sameT x.o x.r = x3 := ⟨_, rfl⟩
  obtain ⟨x4, h4⟩ : ∃ x4, (x.o.p == x.r.p) = x4 := ⟨_, rfl⟩
  obtain ⟨tv, htv⟩ : ∃ tv, timeV (flowV x.o.p) x.st = tv := ⟨_, rfl⟩
  have ht0 : 0 ≤ tv := by rw [← htv]; exact (timeV_bd _ _).1
  rw [h1] at c1
  rw [h2] at c2
  rw [htv] at c4
  obtain ⟨dl, hdl⟩ : ∃ dl, x.dl = dl := ⟨_, rfl⟩
  rw [h1, h2, h3, h4, htv, hdl] at hRV
  rw [hdl]
  have C1 := hide c1; have C2 := hide c2; have C3 := hide c3; have C4 := hide c4; have HRV := hide hRV
  clear c1 c2 c3 c4 h1 h2 htv hRV
  have HN := hide hn6; have HH3 := hide h3; have HH4 := hide h4; have HT0 := hide ht0; clear hn6 hn h3 h4 ht0
  go_enter Tryd.func20, Tryd.ntmps20
  have d0 := Cells.new w #[.int .u8 x.o.p, .int .u32 x.o.si, .int .u16 x.o.sp, .int .u32 x.o.di, .int .u16 x.o.dp, .int .u8 x.r.p, .int .u32 x.r.si, .int .u16 x.r.sp, .int .u32 x.r.di, .int .u16 x.r.dp, .int .i64 x.st, .int .i64 dl, .slice A n c] 51
  have l0 : Below w.heap.size w (w.alloc (.cells #[.int .u8 x.o.p, .int .u32 x.o.si, .int .u16 x.o.sp, .int .u32 x.o.di, .int .u16 x.o.dp, .int .u8 x.r.p, .int .u32 x.r.si, .int .u16 x.r.sp, .int .u32 x.r.di, .int .u16 x.r.dp, .int .i64 x.st, .int .i64 dl, .slice A n c] 51)) := (fresh_below _ _)
  have L0 := hide l0; have D0 := hide d0
  clear l0 d0
  go_upto_region 1 with fail
  have l0 := L0.out; have d0 := D0.out
  clear L0 D0
  generalize (w.alloc (.cells #[.int .u8 x.o.p, .int .u32 x.o.si, .int .u16 x.o.sp, .int .u32 x.o.di, .int .u16 x.o.dp, .int .u8 x.r.p, .int .u32 x.r.si, .int .u16 x.r.sp, .int .u32 x.r.di, .int .u16 x.r.dp, .int .i64 x.st, .int .i64 dl, .slice A n c] 51)) = w1 at *
  have qd0_0 : ∀ W', Below w1.heap.size w1 W' → World.cell? W' ⟨w.heap.size, 0, none⟩ = some (.int .u8 x.o.p) := fun W' h => Cells.at_ (Cells.below h d0) 0
  have qd0_1 : ∀ W', Below w1.heap.size w1 W' → World.cell? W' ⟨w.heap.size, 1, none⟩ = some (.int .u32 x.o.si) := fun W' h => Cells.at_ (Cells.below h d0) 1
  have qd0_2 : ∀ W', Below w1.heap.size w1 W' → World.cell? W' ⟨w.heap.size, 2, none⟩ = some (.int .u16 x.o.sp) := fun W' h => Cells.at_ (Cells.below h d0) 2
  have qd0_3 : ∀ W', Below w1.heap.size w1 W' → World.cell? W' ⟨w.heap.size, 3, none⟩ = some (.int .u32 x.o.di) := fun W' h => Cells.at_ (Cells.below h d0) 3
  have qd0_4 : ∀ W', Below w1.heap.size w1 W' → World.cell? W' ⟨w.heap.size, 4, none⟩ = some (.int .u16 x.o.dp) := fun W' h => Cells.at_ (Cells.below h d0) 4
  have qd0_5 : ∀ W', Below w1.heap.size w1 W' → World.cell? W' ⟨w.heap.size, 5, none⟩ = some (.int .u8 x.r.p) := fun W' h => Cells.at_ (Cells.below h d0) 5
  have qd0_6 : ∀ W', Below w1.heap.size w1 W' → World.cell? W' ⟨w.heap.size, 6, none⟩ = some (.int .u32 x.r.si) := fun W' h => Cells.at_ (Cells.below h d0) 6
  have qd0_7 : ∀ W', Below w1.heap.size w1 W' → World.cell? W' ⟨w.heap.size, 7, none⟩ = some (.int .u16 x.r.sp) := fun W' h => Cells.at_ (Cells.below h d0) 7
  have qd0_8 : ∀ W', Below w1.heap.size w1 W' → World.cell? W' ⟨w.heap.size, 8, none⟩ = some (.int .u32 x.r.di) := fun W' h => Cells.at_ (Cells.below h d0) 8
  have qd0_9 : ∀ W', Below w1.heap.size w1 W' → World.cell? W' ⟨w.heap.size, 9, none⟩ = some (.int .u16 x.r.dp) := fun W' h => Cells.at_ (Cells.below h d0) 9
  have qd0_10 : ∀ W', Below w1.heap.size w1 W' → World.cell? W' ⟨w.heap.size, 10, none⟩ = some (.int .i64 x.st) := fun W' h => Cells.at_ (Cells.below h d0) 10
  have qd0_11 : ∀ W', Below w1.heap.size w1 W' → World.cell? W' ⟨w.heap.size, 11, none⟩ = some (.int .i64 dl) := fun W' h => Cells.at_ (Cells.below h d0) 11
  have qd0_12 : ∀ W', Below w1.heap.size w1 W' → World.cell? W' ⟨w.heap.size, 12, none⟩ = some (.slice A n c) := fun W' h => Cells.at_ (Cells.below h d0) 12
  have bb : Below w1.heap.size w1 w1 := Below.refl _ _
  have L0 := hide l0; have D0 := hide d0
  clear l0 d0
  clear hdl
  cases x1
  · go_wp2_with (first | (go_at_call 27; (with_reducible refine (C1.out _).mono ?_); rintro e2 w2 ⟨rfl, b2⟩; have b2' := bstep (by assumption : Below w1.heap.size w1 _) b2; clear b2) | (go_at_call 27; (with_reducible refine (C2.out _).mono ?_); rintro e2 w2 ⟨rfl, b2⟩; have b2' := bstep (by assumption : Below w1.heap.size w1 _) b2; clear b2))
    go_ret
    exact ⟨Eq.symm (ret_bool (by rw [HRV.out]; rfl)), bstep L0.out (by assumption)⟩
  cases x2
  · go_wp2_with (first | (go_at_call 27; (with_reducible refine (C1.out _).mono ?_); rintro e2 w2 ⟨rfl, b2⟩; have b2' := bstep (by assumption : Below w1.heap.size w1 _) b2; clear b2) | (go_at_call 27; (with_reducible refine (C2.out _).mono ?_); rintro e2 w2 ⟨rfl, b2⟩; have b2' := bstep (by assumption : Below w1.heap.size w1 _) b2; clear b2))
    go_ret
    exact ⟨Eq.symm (ret_bool (by rw [HRV.out]; rfl)), bstep L0.out (by assumption)⟩
  cases x3
  rotate_left 1
  · have e := sameT_eq HH3.out
    have g0 : (x.o.p == x.r.p) = true := by rw [e]; simp
    have g1 : (x.o.si == x.r.si) = true := by rw [e]; simp
    have g2 : (x.o.sp == x.r.sp) = true := by rw [e]; simp
    have g3 : (x.o.di == x.r.di) = true := by rw [e]; simp
    have g4 : (x.o.dp == x.r.dp) = true := by rw [e]; simp
    clear e
    go_wp2_with (first | (go_at_call 27; (with_reducible refine (C1.out _).mono ?_); rintro e2 w2 ⟨rfl, b2⟩; have b2' := bstep (by assumption : Below w1.heap.size w1 _) b2; clear b2) | (go_at_call 27; (with_reducible refine (C2.out _).mono ?_); rintro e2 w2 ⟨rfl, b2⟩; have b2' := bstep (by assumption : Below w1.heap.size w1 _) b2; clear b2))
    go_ret
    exact ⟨Eq.symm (ret_bool (by rw [HRV.out]; rfl)), bstep L0.out (by assumption)⟩
  cases x4
  · have g0 : (x.o.p != x.r.p) = true := by have := HH4.out; rw [bne, this]; rfl
    have g5 := HH4.out
    go_wp2_with (first | (go_at_call 27; (with_reducible refine (C1.out _).mono ?_); rintro e2 w2 ⟨rfl, b2⟩; have b2' := bstep (by assumption : Below w1.heap.size w1 _) b2; clear b2) | (go_at_call 27; (with_reducible refine (C2.out _).mono ?_); rintro e2 w2 ⟨rfl, b2⟩; have b2' := bstep (by assumption : Below w1.heap.size w1 _) b2; clear b2))
    go_ret
    exact ⟨Eq.symm (ret_bool (by rw [HRV.out]; rfl)), bstep L0.out (by assumption)⟩
  have g0 := HH4.out
  have g5 : (x.o.p != x.r.p) = false := by rw [bne, g0]; rfl
  have hh := HH3.out
  unfold sameT at hh
  rw [g0, Bool.true_and] at hh
  obtain ⟨e1, g1⟩ : ∃ e, (x.o.si == x.r.si) = e := ⟨_, rfl⟩
  obtain ⟨e2, g2⟩ : ∃ e, (x.o.sp == x.r.sp) = e := ⟨_, rfl⟩
  obtain ⟨e3, g3⟩ : ∃ e, (x.o.di == x.r.di) = e := ⟨_, rfl⟩
  obtain ⟨e4, g4⟩ : ∃ e, (x.o.dp == x.r.dp) = e := ⟨_, rfl⟩
  rw [g1, g2, g3, g4] at hh
  have gg : e1 = false ∨ (e1 = true ∧ e2 = false) ∨ (e1 = true ∧ e2 = true ∧ e3 = false) ∨ (e1 = true ∧ e2 = true ∧ e3 = true ∧ e4 = false) := by revert hh; cases e1 <;> cases e2 <;> cases e3 <;> cases e4 <;> simp
  clear hh
  go_cut [28] from 3 to 27 (fun sc wc => sc = .bool false ∧ Aside (Below w1.heap.size w1 wc))
  case first =>
    rcases gg with rfl | ⟨rfl, rfl⟩ | ⟨rfl, rfl, rfl⟩ | ⟨rfl, rfl, rfl, rfl⟩
    all_goals
      go_wp2_with (first | (go_at_call 27; (with_reducible refine (C1.out _).mono ?_); rintro e2 w2 ⟨rfl, b2⟩; have b2' := bstep (by assumption : Below w1.heap.size w1 _) b2; clear b2) | (go_at_call 27; (with_reducible refine (C2.out _).mono ?_); rintro e2 w2 ⟨rfl, b2⟩; have b2' := bstep (by assumption : Below w1.heap.size w1 _) b2; clear b2))
      go_meet
      case rel => exact ⟨rfl, (show Aside _ from b2')⟩
  case rest =>
  obtain ⟨rfl, hbc⟩ := hcut
  obtain ⟨w2, hw2⟩ : ∃ w2, w2 = wc := ⟨_, rfl⟩
  rw [← hw2] at hbc ⊢
  have b2' := hbc.out
  clear hw2 hbc gg g0 g1 g2 g3 g4 g5
  go_upto_region 3 with fail
  by_cases ht : 0 < tv
  rotate_left 1
  · have D1 := hide (decide_eq_false ht)
    have tz : tv = 0 := by have := HT0.out; omega
    subst tz
    clear ht
    have s3 : Below w1.heap.size w1 w2.drew := Below.drew b2'
    focus
      refine wp_region_J [] (fun W => Below w1.heap.size w1 W) (by kernel_rfl) (s3) (fun hS0 => ?_)
      refine wpAnyJ_take (i := 0) (v := ?v0_15) rfl (by kernel_rfl) (by kernel_rfl) (by kernel_rfl) (by kernel_rfl) (fun _ _ _ h => h) (Or.inl (And.intro (by kernel_rfl) ?q0_15)) hS0 ?r0_15; (case q0_15 => (intro w hx; (try dsimp only); (try go_simp); (try with_reducible rfl)))
      (try simp only [Act.put, List.setIfInBounds_toArray, List.set_cons_zero, List.set_cons_succ, List.getElem_toArray, List.getElem_cons_succ, List.getElem_cons_zero])
      refine wpAnyJ_take (i := 1) (v := ?v1_16) rfl (by kernel_rfl) (by kernel_rfl) (by kernel_rfl) (by kernel_rfl) (fun _ _ _ h => h) (Or.inl (And.intro (by kernel_rfl) ?q1_16)) hS0 ?r1_16; (case q1_16 => (intro w hx; (try dsimp only); (try go_simp); (try with_reducible rfl)))
      (try simp only [Act.put, List.setIfInBounds_toArray, List.set_cons_zero, List.set_cons_succ, List.getElem_toArray, List.getElem_cons_succ, List.getElem_cons_zero])
      refine wpAnyJ_take (i := 2) (v := ?v2_17) rfl (by kernel_rfl) (by kernel_rfl) (by kernel_rfl) (by kernel_rfl) (fun _ _ _ h => h) (Or.inl (And.intro (by kernel_rfl) ?q2_17)) hS0 ?r2_17; (case q2_17 => (intro w hx; (try dsimp only); (try go_simp); (try with_reducible rfl)))
      (try simp only [Act.put, List.setIfInBounds_toArray, List.set_cons_zero, List.set_cons_succ, List.getElem_toArray, List.getElem_cons_succ, List.getElem_cons_zero])
      refine wpAnyJ_take (i := 4) (v := ?v4_18) rfl (by kernel_rfl) (by kernel_rfl) (by kernel_rfl) (by kernel_rfl) (fun _ _ _ h => h) (Or.inl (And.intro (by kernel_rfl) ?q4_18)) hS0 ?r4_18; (case q4_18 => (intro w hx; (try dsimp only); (try go_simp); (try with_reducible rfl)))
      (try simp only [Act.put, List.setIfInBounds_toArray, List.set_cons_zero, List.set_cons_succ, List.getElem_toArray, List.getElem_cons_succ, List.getElem_cons_zero])
      refine wpAnyJ_take (i := 5) (v := ?v5_19) rfl (by kernel_rfl) (by kernel_rfl) (by kernel_rfl) (by kernel_rfl) (fun _ _ _ h => h) (Or.inl (And.intro (by kernel_rfl) ?q5_19)) hS0 ?r5_19; (case q5_19 => (intro w hx; (try dsimp only); (try go_simp); (try with_reducible rfl)))
      (try simp only [Act.put, List.setIfInBounds_toArray, List.set_cons_zero, List.set_cons_succ, List.getElem_toArray, List.getElem_cons_succ, List.getElem_cons_zero])
      refine wpAnyJ_ready (rs := [3]) (by kernel_rfl) (by simp) ?_
      refine (AllReadyJ.cons rfl (fun K hK => ?_) AllReadyJ.nil)
      rw [if_pos (by kernel_rfl)]
      (try simp only [List.getElem_toArray, List.getElem_cons_succ, List.getElem_cons_zero])
      (focus go_simp)
      (focus ((with_reducible refine (C3.out _).mono ?_); rintro e wq3 ⟨rfl, bq3⟩; have sq := bstep hS0 bq3))
      (focus (try go_wp2_with fail))
      refine hK.out _ _ ?hs (fun hS0 => ?_)
      case hs => (first | with_reducible exact hS0 | with_reducible exact sq)
      clear hK K
      (try simp only [Act.put, List.setIfInBounds_toArray, List.set_cons_zero, List.set_cons_succ, List.getElem_toArray, List.getElem_cons_succ, List.getElem_cons_zero])
      refine wpAnyJ_ready (rs := [6]) (by kernel_rfl) (by simp) ?_
      refine (AllReadyJ.cons rfl (fun K hK => ?_) AllReadyJ.nil)
      rw [if_pos (by kernel_rfl)]
      (try simp only [List.getElem_toArray, List.getElem_cons_succ, List.getElem_cons_zero])
      (focus go_simp)
      (focus ((with_reducible refine (C4.out _).mono ?_); rintro e wq6 ⟨rfl, bq6⟩; have sq := bstep hS0 bq6))
      (focus (try go_wp2_with fail))
      refine hK.out _ _ ?hs (fun hS0 => ?_)
      case hs => (first | with_reducible exact hS0 | with_reducible exact sq)
      clear hK K
      (try simp only [Act.put, List.setIfInBounds_toArray, List.set_cons_zero, List.set_cons_succ, List.getElem_toArray, List.getElem_cons_succ, List.getElem_cons_zero])
      refine wpAnyJ_take (i := 7) (v := ?v7_20) rfl (by kernel_rfl) (by kernel_rfl) (by kernel_rfl) (by kernel_rfl) (fun _ _ _ h => h) (Or.inl (And.intro (by kernel_rfl) ?q7_20)) hS0 ?r7_20; (case q7_20 => (intro w hx; (try dsimp only); (try go_simp); (try with_reducible rfl)))
      (try simp only [Act.put, List.setIfInBounds_toArray, List.set_cons_zero, List.set_cons_succ, List.getElem_toArray, List.getElem_cons_succ, List.getElem_cons_zero])
      refine wpAnyJ_done (by kernel_rfl) ?_ _
    go_wp2_with fail
    go_ret
    exact ⟨Eq.symm (ret_bool (by rw [HRV.out, D1.out]; rfl)), bstep L0.out (by assumption)⟩
  have D1 := hide (decide_eq_true ht)
  have tz : (tv == 0) = false := by simp; omega
  clear ht
  have s3 : Below w1.heap.size w1 w2.drew := Below.drew b2'
  focus
    refine wp_region_J [] (fun W => Below w1.heap.size w1 W) (by kernel_rfl) (s3) (fun hS0 => ?_)
    refine wpAnyJ_take (i := 0) (v := ?v0_21) rfl (by kernel_rfl) (by kernel_rfl) (by kernel_rfl) (by kernel_rfl) (fun _ _ _ h => h) (Or.inl (And.intro (by kernel_rfl) ?q0_21)) hS0 ?r0_21; (case q0_21 => (intro w hx; (try dsimp only); (try go_simp); (try with_reducible rfl)))
    (try simp only [Act.put, List.setIfInBounds_toArray, List.set_cons_zero, List.set_cons_succ, List.getElem_toArray, List.getElem_cons_succ, List.getElem_cons_zero])
    refine wpAnyJ_take (i := 1) (v := ?v1_22) rfl (by kernel_rfl) (by kernel_rfl) (by kernel_rfl) (by kernel_rfl) (fun _ _ _ h => h) (Or.inl (And.intro (by kernel_rfl) ?q1_22)) hS0 ?r1_22; (case q1_22 => (intro w hx; (try dsimp only); (try go_simp); (try with_reducible rfl)))
    (try simp only [Act.put, List.setIfInBounds_toArray, List.set_cons_zero, List.set_cons_succ, List.getElem_toArray, List.getElem_cons_succ, List.getElem_cons_zero])
    refine wpAnyJ_take (i := 2) (v := ?v2_23) rfl (by kernel_rfl) (by kernel_rfl) (by kernel_rfl) (by kernel_rfl) (fun _ _ _ h => h) (Or.inl (And.intro (by kernel_rfl) ?q2_23)) hS0 ?r2_23; (case q2_23 => (intro w hx; (try dsimp only); (try go_simp); (try with_reducible rfl)))
    (try simp only [Act.put, List.setIfInBounds_toArray, List.set_cons_zero, List.set_cons_succ, List.getElem_toArray, List.getElem_cons_succ, List.getElem_cons_zero])
    refine wpAnyJ_take (i := 4) (v := ?v4_24) rfl (by kernel_rfl) (by kernel_rfl) (by kernel_rfl) (by kernel_rfl) (fun _ _ _ h => h) (Or.inl (And.intro (by kernel_rfl) ?q4_24)) hS0 ?r4_24; (case q4_24 => (intro w hx; (try dsimp only); (try go_simp); (try with_reducible rfl)))
    (try simp only [Act.put, List.setIfInBounds_toArray, List.set_cons_zero, List.set_cons_succ, List.getElem_toArray, List.getElem_cons_succ, List.getElem_cons_zero])
    refine wpAnyJ_take (i := 5) (v := ?v5_25) rfl (by kernel_rfl) (by kernel_rfl) (by kernel_rfl) (by kernel_rfl) (fun _ _ _ h => h) (Or.inl (And.intro (by kernel_rfl) ?q5_25)) hS0 ?r5_25; (case q5_25 => (intro w hx; (try dsimp only); (try go_simp); (try with_reducible rfl)))
    (try simp only [Act.put, List.setIfInBounds_toArray, List.set_cons_zero, List.set_cons_succ, List.getElem_toArray, List.getElem_cons_succ, List.getElem_cons_zero])
    refine wpAnyJ_ready (rs := [3]) (by kernel_rfl) (by simp) ?_
    refine (AllReadyJ.cons rfl (fun K hK => ?_) AllReadyJ.nil)
    rw [if_pos (by kernel_rfl)]
    (try simp only [List.getElem_toArray, List.getElem_cons_succ, List.getElem_cons_zero])
    (focus go_simp)
    (focus ((with_reducible refine (C3.out _).mono ?_); rintro e wq3 ⟨rfl, bq3⟩; have sq := bstep hS0 bq3))
    (focus (try go_wp2_with fail))
    refine hK.out _ _ ?hs (fun hS0 => ?_)
    case hs => (first | with_reducible exact hS0 | with_reducible exact sq)
    clear hK K
    (try simp only [Act.put, List.setIfInBounds_toArray, List.set_cons_zero, List.set_cons_succ, List.getElem_toArray, List.getElem_cons_succ, List.getElem_cons_zero])
    refine wpAnyJ_ready (rs := [6]) (by kernel_rfl) (by simp) ?_
    refine (AllReadyJ.cons rfl (fun K hK => ?_) AllReadyJ.nil)
    rw [if_pos (by kernel_rfl)]
    (try simp only [List.getElem_toArray, List.getElem_cons_succ, List.getElem_cons_zero])
    (focus go_simp)
    (focus ((with_reducible refine (C4.out _).mono ?_); rintro e wq6 ⟨rfl, bq6⟩; have sq := bstep hS0 bq6))
    (focus (try go_wp2_with fail))
    refine hK.out _ _ ?hs (fun hS0 => ?_)
    case hs => (first | with_reducible exact hS0 | with_reducible exact sq)
    clear hK K
    (try simp only [Act.put, List.setIfInBounds_toArray, List.set_cons_zero, List.set_cons_succ, List.getElem_toArray, List.getElem_cons_succ, List.getElem_cons_zero])
    refine wpAnyJ_take (i := 7) (v := ?v7_26) rfl (by kernel_rfl) (by kernel_rfl) (by kernel_rfl) (by kernel_rfl) (fun _ _ _ h => h) (Or.inl (And.intro (by kernel_rfl) ?q7_26)) hS0 ?r7_26; (case q7_26 => (intro w hx; (try dsimp only); (try go_simp); (try with_reducible rfl)))
    (try simp only [Act.put, List.setIfInBounds_toArray, List.set_cons_zero, List.set_cons_succ, List.getElem_toArray, List.getElem_cons_succ, List.getElem_cons_zero])
    refine wpAnyJ_done (by kernel_rfl) ?_ _
  go_upto_region 5 with fail
  clear tz
  by_cases hd0 : 0 ≤ dl
  rotate_left 1
  · have D2 := hide (decide_eq_false hd0)
    go_wp2_with fail
    go_ret
    exact ⟨Eq.symm (ret_bool (by rw [HRV.out, D1.out, D2.out]; rfl)), bstep L0.out (by assumption)⟩
  have D2 := hide (decide_eq_true hd0)
  by_cases hd1 : dl ≤ 1099511635216
  rotate_left 1
  · have D3 := hide (decide_eq_false hd1)
    go_wp2_with fail
    go_ret
    exact ⟨Eq.symm (ret_bool (by rw [HRV.out, D1.out, D2.out, D3.out]; rfl)), bstep L0.out (by assumption)⟩
  have D3 := hide (decide_eq_true hd1)
  have hn6 := HN.out
  by_cases k1 : n = 1
  · subst k1
    go_wp2_with fail
    go_ret
    exact ⟨Eq.symm (ret_bool (by rw [HRV.out, D1.out, D2.out, D3.out]; rfl)), bstep L0.out (by assumption)⟩
  by_cases k2 : n = 2
  · subst k2
    go_wp2_with fail
    go_ret
    exact ⟨Eq.symm (ret_bool (by rw [HRV.out, D1.out, D2.out, D3.out]; rfl)), bstep L0.out (by assumption)⟩
  have e1 : ((n : Int) == 1) = false := by simp; omega
  have e2 : ((n : Int) == 2) = false := by simp; omega
  have D4 := hide (show (decide (1 ≤ n) && decide (n ≤ 2)) = false by rw [Bool.and_eq_false_iff, decide_eq_false_iff_not, decide_eq_false_iff_not]; omega)
  clear k1 k2
  go_wp2_with fail
  go_ret
  exact ⟨Eq.symm (ret_bool (by rw [HRV.out, D1.out, D2.out, D3.out, D4.out]; rfl)), bstep L0.out (by assumption)⟩
end Go.Proofs.YtilfcikhipadpaaDoor
end

section
/- binds: the document's Same, of an entry with itself. -/
set_option linter.unusedVariables false
set_option linter.unusedSimpArgs false
namespace Go.Proofs.YtilfcikhipadpaaDoor
open Go.RowKit Go.Lib
attribute [local go_sem] Oper.semAt_some

set_option maxHeartbeats 8000000 in
set_option maxRecDepth 100000 in
theorem d_Same (w : World) (q : Ent) (A A2 : Option Addr) (n c c2 : Nat) (hn : n = q.hs.length) (hA : dholdK.Has w A q.hs) (hA2 : dholdK.Has w A2 q.hs) (hn6 : n ≤ 1000) (hc : n ≤ c) (hc2 : n ≤ c2) :
    Calls Tryd.prog 10 #[.agg #[.int .u8 q.o.p, .int .u32 q.o.si, .int .u16 q.o.sp, .int .u32 q.o.di, .int .u16 q.o.dp, .int .u8 q.r.p, .int .u32 q.r.si, .int .u16 q.r.sp, .int .u32 q.r.di, .int .u16 q.r.dp, .int .i64 q.st, .int .i64 q.dl, .slice A n c], .agg #[.int .u8 q.o.p, .int .u32 q.o.si, .int .u16 q.o.sp, .int .u32 q.o.di, .int .u16 q.o.dp, .int .u8 q.r.p, .int .u32 q.r.si, .int .u16 q.r.sp, .int .u32 q.r.di, .int .u16 q.r.dp, .int .i64 q.st, .int .i64 q.dl, .slice A2 n c2]] w (Ret (.bool true) w) := by
  have HN := hide hn; have HA := hide hA; have HA2 := hide hA2
  have hnz : (n : Int) ≤ 1000 := by omega
  clear hn hA hA2 hn6
  go_enter Tryd.func10, Tryd.ntmps10
  have d0 := Cells.new w #[.int .u8 q.o.p, .int .u32 q.o.si, .int .u16 q.o.sp, .int .u32 q.o.di, .int .u16 q.o.dp, .int .u8 q.r.p, .int .u32 q.r.si, .int .u16 q.r.sp, .int .u32 q.r.di, .int .u16 q.r.dp, .int .i64 q.st, .int .i64 q.dl, .slice A n c] 51
  replace d0 := Cells.below (fresh_below (w.alloc (.cells #[.int .u8 q.o.p, .int .u32 q.o.si, .int .u16 q.o.sp, .int .u32 q.o.di, .int .u16 q.o.dp, .int .u8 q.r.p, .int .u32 q.r.si, .int .u16 q.r.sp, .int .u32 q.r.di, .int .u16 q.r.dp, .int .i64 q.st, .int .i64 q.dl, .slice A n c] 51)) (.cells #[.int .u8 q.o.p, .int .u32 q.o.si, .int .u16 q.o.sp, .int .u32 q.o.di, .int .u16 q.o.dp, .int .u8 q.r.p, .int .u32 q.r.si, .int .u16 q.r.sp, .int .u32 q.r.di, .int .u16 q.r.dp, .int .i64 q.st, .int .i64 q.dl, .slice A2 n c2] 51)) d0
  have d1 := Cells.new (w.alloc (.cells #[.int .u8 q.o.p, .int .u32 q.o.si, .int .u16 q.o.sp, .int .u32 q.o.di, .int .u16 q.o.dp, .int .u8 q.r.p, .int .u32 q.r.si, .int .u16 q.r.sp, .int .u32 q.r.di, .int .u16 q.r.dp, .int .i64 q.st, .int .i64 q.dl, .slice A n c] 51)) #[.int .u8 q.o.p, .int .u32 q.o.si, .int .u16 q.o.sp, .int .u32 q.o.di, .int .u16 q.o.dp, .int .u8 q.r.p, .int .u32 q.r.si, .int .u16 q.r.sp, .int .u32 q.r.di, .int .u16 q.r.dp, .int .i64 q.st, .int .i64 q.dl, .slice A2 n c2] 51
  have l0 : Below w.heap.size w ((w.alloc (.cells #[.int .u8 q.o.p, .int .u32 q.o.si, .int .u16 q.o.sp, .int .u32 q.o.di, .int .u16 q.o.dp, .int .u8 q.r.p, .int .u32 q.r.si, .int .u16 q.r.sp, .int .u32 q.r.di, .int .u16 q.r.dp, .int .i64 q.st, .int .i64 q.dl, .slice A n c] 51)).alloc (.cells #[.int .u8 q.o.p, .int .u32 q.o.si, .int .u16 q.o.sp, .int .u32 q.o.di, .int .u16 q.o.dp, .int .u8 q.r.p, .int .u32 q.r.si, .int .u16 q.r.sp, .int .u32 q.r.di, .int .u16 q.r.dp, .int .i64 q.st, .int .i64 q.dl, .slice A2 n c2] 51)) := (bstep (fresh_below _ _) (fresh_below _ _))
  simp only [World.size_alloc] at d1
  have L0 := hide l0; have D0 := hide d0; have D1 := hide d1
  clear l0 d0 d1
  go_upto_region 1 with fail
  have l0 := L0.out; have d0 := D0.out; have d1 := D1.out
  clear L0 D0 D1
  generalize ((w.alloc (.cells #[.int .u8 q.o.p, .int .u32 q.o.si, .int .u16 q.o.sp, .int .u32 q.o.di, .int .u16 q.o.dp, .int .u8 q.r.p, .int .u32 q.r.si, .int .u16 q.r.sp, .int .u32 q.r.di, .int .u16 q.r.dp, .int .i64 q.st, .int .i64 q.dl, .slice A n c] 51)).alloc (.cells #[.int .u8 q.o.p, .int .u32 q.o.si, .int .u16 q.o.sp, .int .u32 q.o.di, .int .u16 q.o.dp, .int .u8 q.r.p, .int .u32 q.r.si, .int .u16 q.r.sp, .int .u32 q.r.di, .int .u16 q.r.dp, .int .i64 q.st, .int .i64 q.dl, .slice A2 n c2] 51)) = w1 at *
  have qd0_0 : ∀ W', Below w1.heap.size w1 W' → World.cell? W' ⟨w.heap.size, 0, none⟩ = some (.int .u8 q.o.p) := fun W' h => Cells.at_ (Cells.below h d0) 0
  have qd0_1 : ∀ W', Below w1.heap.size w1 W' → World.cell? W' ⟨w.heap.size, 1, none⟩ = some (.int .u32 q.o.si) := fun W' h => Cells.at_ (Cells.below h d0) 1
  have qd0_2 : ∀ W', Below w1.heap.size w1 W' → World.cell? W' ⟨w.heap.size, 2, none⟩ = some (.int .u16 q.o.sp) := fun W' h => Cells.at_ (Cells.below h d0) 2
  have qd0_3 : ∀ W', Below w1.heap.size w1 W' → World.cell? W' ⟨w.heap.size, 3, none⟩ = some (.int .u32 q.o.di) := fun W' h => Cells.at_ (Cells.below h d0) 3
  have qd0_4 : ∀ W', Below w1.heap.size w1 W' → World.cell? W' ⟨w.heap.size, 4, none⟩ = some (.int .u16 q.o.dp) := fun W' h => Cells.at_ (Cells.below h d0) 4
  have qd0_5 : ∀ W', Below w1.heap.size w1 W' → World.cell? W' ⟨w.heap.size, 5, none⟩ = some (.int .u8 q.r.p) := fun W' h => Cells.at_ (Cells.below h d0) 5
  have qd0_6 : ∀ W', Below w1.heap.size w1 W' → World.cell? W' ⟨w.heap.size, 6, none⟩ = some (.int .u32 q.r.si) := fun W' h => Cells.at_ (Cells.below h d0) 6
  have qd0_7 : ∀ W', Below w1.heap.size w1 W' → World.cell? W' ⟨w.heap.size, 7, none⟩ = some (.int .u16 q.r.sp) := fun W' h => Cells.at_ (Cells.below h d0) 7
  have qd0_8 : ∀ W', Below w1.heap.size w1 W' → World.cell? W' ⟨w.heap.size, 8, none⟩ = some (.int .u32 q.r.di) := fun W' h => Cells.at_ (Cells.below h d0) 8
  have qd0_9 : ∀ W', Below w1.heap.size w1 W' → World.cell? W' ⟨w.heap.size, 9, none⟩ = some (.int .u16 q.r.dp) := fun W' h => Cells.at_ (Cells.below h d0) 9
  have qd0_10 : ∀ W', Below w1.heap.size w1 W' → World.cell? W' ⟨w.heap.size, 10, none⟩ = some (.int .i64 q.st) := fun W' h => Cells.at_ (Cells.below h d0) 10
  have qd0_11 : ∀ W', Below w1.heap.size w1 W' → World.cell? W' ⟨w.heap.size, 11, none⟩ = some (.int .i64 q.dl) := fun W' h => Cells.at_ (Cells.below h d0) 11
  have qd0_12 : ∀ W', Below w1.heap.size w1 W' → World.cell? W' ⟨w.heap.size, 12, none⟩ = some (.slice A n c) := fun W' h => Cells.at_ (Cells.below h d0) 12
  have qd1_0 : ∀ W', Below w1.heap.size w1 W' → World.cell? W' ⟨w.heap.size + 1, 0, none⟩ = some (.int .u8 q.o.p) := fun W' h => Cells.at_ (Cells.below h d1) 0
  have qd1_1 : ∀ W', Below w1.heap.size w1 W' → World.cell? W' ⟨w.heap.size + 1, 1, none⟩ = some (.int .u32 q.o.si) := fun W' h => Cells.at_ (Cells.below h d1) 1
  have qd1_2 : ∀ W', Below w1.heap.size w1 W' → World.cell? W' ⟨w.heap.size + 1, 2, none⟩ = some (.int .u16 q.o.sp) := fun W' h => Cells.at_ (Cells.below h d1) 2
  have qd1_3 : ∀ W', Below w1.heap.size w1 W' → World.cell? W' ⟨w.heap.size + 1, 3, none⟩ = some (.int .u32 q.o.di) := fun W' h => Cells.at_ (Cells.below h d1) 3
  have qd1_4 : ∀ W', Below w1.heap.size w1 W' → World.cell? W' ⟨w.heap.size + 1, 4, none⟩ = some (.int .u16 q.o.dp) := fun W' h => Cells.at_ (Cells.below h d1) 4
  have qd1_5 : ∀ W', Below w1.heap.size w1 W' → World.cell? W' ⟨w.heap.size + 1, 5, none⟩ = some (.int .u8 q.r.p) := fun W' h => Cells.at_ (Cells.below h d1) 5
  have qd1_6 : ∀ W', Below w1.heap.size w1 W' → World.cell? W' ⟨w.heap.size + 1, 6, none⟩ = some (.int .u32 q.r.si) := fun W' h => Cells.at_ (Cells.below h d1) 6
  have qd1_7 : ∀ W', Below w1.heap.size w1 W' → World.cell? W' ⟨w.heap.size + 1, 7, none⟩ = some (.int .u16 q.r.sp) := fun W' h => Cells.at_ (Cells.below h d1) 7
  have qd1_8 : ∀ W', Below w1.heap.size w1 W' → World.cell? W' ⟨w.heap.size + 1, 8, none⟩ = some (.int .u32 q.r.di) := fun W' h => Cells.at_ (Cells.below h d1) 8
  have qd1_9 : ∀ W', Below w1.heap.size w1 W' → World.cell? W' ⟨w.heap.size + 1, 9, none⟩ = some (.int .u16 q.r.dp) := fun W' h => Cells.at_ (Cells.below h d1) 9
  have qd1_10 : ∀ W', Below w1.heap.size w1 W' → World.cell? W' ⟨w.heap.size + 1, 10, none⟩ = some (.int .i64 q.st) := fun W' h => Cells.at_ (Cells.below h d1) 10
  have qd1_11 : ∀ W', Below w1.heap.size w1 W' → World.cell? W' ⟨w.heap.size + 1, 11, none⟩ = some (.int .i64 q.dl) := fun W' h => Cells.at_ (Cells.below h d1) 11
  have qd1_12 : ∀ W', Below w1.heap.size w1 W' → World.cell? W' ⟨w.heap.size + 1, 12, none⟩ = some (.slice A2 n c2) := fun W' h => Cells.at_ (Cells.below h d1) 12
  have bb : Below w1.heap.size w1 w1 := Below.refl _ _
  have L0 := hide l0; have D0 := hide d0; have D1 := hide d1
  clear l0 d0 d1
  go_upto_region 4 with fail
  clear qd0_0 qd0_1 qd0_2 qd0_3 qd0_4 qd0_5 qd0_6 qd0_7 qd0_8 qd0_9 qd0_10 qd0_11 qd0_12 qd1_0 qd1_1 qd1_2 qd1_3 qd1_4 qd1_5 qd1_6 qd1_7 qd1_8 qd1_9 qd1_10 qd1_11 qd1_12 bb
  go_loopg [5] n (fun gg sj wr => ∃ kk : Nat, kk ≤ n ∧ n - kk ≤ gg ∧ sj = .int .i64 kk ∧ Aside (Below w1.heap.size w1 wr))
  case atStart => exact ⟨0, Nat.zero_le _, by omega, rfl, (show Aside _ from Below.refl _ w1)⟩
  case round =>
    obtain ⟨kk, hkk, hg, rfl, BW⟩ := hrel
    have e0 := Cells.below BW.out D0.out; have e1 := Cells.below BW.out D1.out
    have lw := bstep L0.out BW.out
    have q0 : ∀ W', Below wr.heap.size wr W' → World.cell? W' ⟨w.heap.size, 12, none⟩ = some (.slice A n c) := fun W' hW => (Cells.below hW e0).at_ 12
    have q1 : ∀ W', Below wr.heap.size wr W' → World.cell? W' ⟨w.heap.size + 1, 12, none⟩ = some (.slice A2 n c2) := fun W' hW => (Cells.below hW e1).at_ 12
    have bb : Below wr.heap.size wr wr := Below.refl _ _
    clear e0 e1
    by_cases hlt : kk < n
    · have hltz : (kk : Int) < (n : Int) := by omega
      have hl : kk < q.hs.length := by have := HN.out; omega
      obtain ⟨g, o, rfl, hg0, hrow⟩ := HA.out.at_ hl
      obtain ⟨g2, o2, rfl, hg2, hrow2⟩ := HA2.out.at_ hl
      obtain ⟨r, hr⟩ : ∃ r, r = q.hs[kk] := ⟨_, rfl⟩
      rw [← hr] at hrow hrow2
      have z0 : ∀ W', Below wr.heap.size wr W' → World.cell? W' ⟨g, o + kk * 4, none⟩ = some (.int .u32 r.oa) := fun W' hW => hrow 0 _ rfl W' (bstep lw hW)
      have z1 : ∀ W', Below wr.heap.size wr W' → World.cell? W' ⟨g, o + kk * 4 + 1, none⟩ = some (.int .u16 r.op) := fun W' hW => hrow 1 _ rfl W' (bstep lw hW)
      have z2 : ∀ W', Below wr.heap.size wr W' → World.cell? W' ⟨g, o + kk * 4 + 2, none⟩ = some (.int .u32 r.ia) := fun W' hW => hrow 2 _ rfl W' (bstep lw hW)
      have z3 : ∀ W', Below wr.heap.size wr W' → World.cell? W' ⟨g, o + kk * 4 + 3, none⟩ = some (.int .u16 r.ip) := fun W' hW => hrow 3 _ rfl W' (bstep lw hW)
      have y0 : ∀ W', Below wr.heap.size wr W' → World.cell? W' ⟨g2, o2 + kk * 4, none⟩ = some (.int .u32 r.oa) := fun W' hW => hrow2 0 _ rfl W' (bstep lw hW)
      have y1 : ∀ W', Below wr.heap.size wr W' → World.cell? W' ⟨g2, o2 + kk * 4 + 1, none⟩ = some (.int .u16 r.op) := fun W' hW => hrow2 1 _ rfl W' (bstep lw hW)
      have y2 : ∀ W', Below wr.heap.size wr W' → World.cell? W' ⟨g2, o2 + kk * 4 + 2, none⟩ = some (.int .u32 r.ia) := fun W' hW => hrow2 2 _ rfl W' (bstep lw hW)
      have y3 : ∀ W', Below wr.heap.size wr W' → World.cell? W' ⟨g2, o2 + kk * 4 + 3, none⟩ = some (.int .u16 r.ip) := fun W' hW => hrow2 3 _ rfl W' (bstep lw hW)
      have hkw : IntKind.i64.wrap ((kk : Int) + 1) = ((kk + 1 : Nat) : Int) := by rw [IntWalk.i64_in _ (by omega)]; omega
      have LW := hide lw; have BW2 := BW
      clear hrow hrow2 hr hg0 hg2 lw
      go_upto_region 6 with fail
      have s6 : Below wr.heap.size wr wr.drew := Below.drew bb
      focus
        refine wp_region_J [] (fun W => Below wr.heap.size wr W) (by kernel_rfl) (s6) (fun hS0 => ?_)
        refine wpAnyJ_take (i := 0) (v := ?v0_1) rfl (by kernel_rfl) (by kernel_rfl) (by kernel_rfl) (by kernel_rfl) (fun _ _ _ h => h) (Or.inl (And.intro (by kernel_rfl) ?q0_1)) hS0 ?r0_1; (case q0_1 => (intro w hx; (try dsimp only); (try go_simp); (try with_reducible rfl)))
        (try simp only [Act.put, List.setIfInBounds_toArray, List.set_cons_zero, List.set_cons_succ, List.getElem_toArray, List.getElem_cons_succ, List.getElem_cons_zero])
        refine wpAnyJ_take (i := 1) (v := ?v1_2) rfl (by kernel_rfl) (by kernel_rfl) (by kernel_rfl) (by kernel_rfl) (fun _ _ _ h => h) (Or.inl (And.intro (by kernel_rfl) ?q1_2)) hS0 ?r1_2; (case q1_2 => (intro w hx; (try dsimp only); (try go_simp); (try with_reducible rfl)))
        (try simp only [Act.put, List.setIfInBounds_toArray, List.set_cons_zero, List.set_cons_succ, List.getElem_toArray, List.getElem_cons_succ, List.getElem_cons_zero])
        refine wpAnyJ_take (i := 2) (v := ?v2_3) rfl (by kernel_rfl) (by kernel_rfl) (by kernel_rfl) (by kernel_rfl) (fun _ _ _ h => h) (Or.inl (And.intro (by kernel_rfl) ?q2_3)) hS0 ?r2_3; (case q2_3 => (intro w hx; (try dsimp only); (try go_simp); (try with_reducible rfl)))
        (try simp only [Act.put, List.setIfInBounds_toArray, List.set_cons_zero, List.set_cons_succ, List.getElem_toArray, List.getElem_cons_succ, List.getElem_cons_zero])
        refine wpAnyJ_take (i := 3) (v := ?v3_4) rfl (by kernel_rfl) (by kernel_rfl) (by kernel_rfl) (by kernel_rfl) (fun _ _ _ h => h) (Or.inl (And.intro (by kernel_rfl) ?q3_4)) hS0 ?r3_4; (case q3_4 => (intro w hx; (try dsimp only); (try go_simp); (try with_reducible rfl)))
        (try simp only [Act.put, List.setIfInBounds_toArray, List.set_cons_zero, List.set_cons_succ, List.getElem_toArray, List.getElem_cons_succ, List.getElem_cons_zero])
        refine wpAnyJ_take (i := 4) (v := ?v4_5) rfl (by kernel_rfl) (by kernel_rfl) (by kernel_rfl) (by kernel_rfl) (fun _ _ _ h => h) (Or.inl (And.intro (by kernel_rfl) ?q4_5)) hS0 ?r4_5; (case q4_5 => (intro w hx; (try dsimp only); (try go_simp); (try with_reducible rfl)))
        (try simp only [Act.put, List.setIfInBounds_toArray, List.set_cons_zero, List.set_cons_succ, List.getElem_toArray, List.getElem_cons_succ, List.getElem_cons_zero])
        refine wpAnyJ_take (i := 5) (v := ?v5_6) rfl (by kernel_rfl) (by kernel_rfl) (by kernel_rfl) (by kernel_rfl) (fun _ _ _ h => h) (Or.inl (And.intro (by kernel_rfl) ?q5_6)) hS0 ?r5_6; (case q5_6 => (intro w hx; (try dsimp only); (try go_simp); (try with_reducible rfl)))
        (try simp only [Act.put, List.setIfInBounds_toArray, List.set_cons_zero, List.set_cons_succ, List.getElem_toArray, List.getElem_cons_succ, List.getElem_cons_zero])
        refine wpAnyJ_take (i := 6) (v := ?v6_7) rfl (by kernel_rfl) (by kernel_rfl) (by kernel_rfl) (by kernel_rfl) (fun _ _ _ h => h) (Or.inl (And.intro (by kernel_rfl) ?q6_7)) hS0 ?r6_7; (case q6_7 => (intro w hx; (try dsimp only); (try go_simp); (try with_reducible rfl)))
        (try simp only [Act.put, List.setIfInBounds_toArray, List.set_cons_zero, List.set_cons_succ, List.getElem_toArray, List.getElem_cons_succ, List.getElem_cons_zero])
        refine wpAnyJ_take (i := 7) (v := ?v7_8) rfl (by kernel_rfl) (by kernel_rfl) (by kernel_rfl) (by kernel_rfl) (fun _ _ _ h => h) (Or.inl (And.intro (by kernel_rfl) ?q7_8)) hS0 ?r7_8; (case q7_8 => (intro w hx; (try dsimp only); (try go_simp); (try with_reducible rfl)))
        (try simp only [Act.put, List.setIfInBounds_toArray, List.set_cons_zero, List.set_cons_succ, List.getElem_toArray, List.getElem_cons_succ, List.getElem_cons_zero])
        refine wpAnyJ_take (i := 8) (v := ?v8_9) rfl (by kernel_rfl) (by kernel_rfl) (by kernel_rfl) (by kernel_rfl) (fun _ _ _ h => h) (Or.inl (And.intro (by kernel_rfl) ?q8_9)) hS0 ?r8_9; (case q8_9 => (intro w hx; (try dsimp only); (try go_simp); (try with_reducible rfl)))
        (try simp only [Act.put, List.setIfInBounds_toArray, List.set_cons_zero, List.set_cons_succ, List.getElem_toArray, List.getElem_cons_succ, List.getElem_cons_zero])
        refine wpAnyJ_take (i := 9) (v := ?v9_10) rfl (by kernel_rfl) (by kernel_rfl) (by kernel_rfl) (by kernel_rfl) (fun _ _ _ h => h) (Or.inl (And.intro (by kernel_rfl) ?q9_10)) hS0 ?r9_10; (case q9_10 => (intro w hx; (try dsimp only); (try go_simp); (try with_reducible rfl)))
        (try simp only [Act.put, List.setIfInBounds_toArray, List.set_cons_zero, List.set_cons_succ, List.getElem_toArray, List.getElem_cons_succ, List.getElem_cons_zero])
        refine wpAnyJ_take (i := 10) (v := ?v10_11) rfl (by kernel_rfl) (by kernel_rfl) (by kernel_rfl) (by kernel_rfl) (fun _ _ _ h => h) (Or.inl (And.intro (by kernel_rfl) ?q10_11)) hS0 ?r10_11; (case q10_11 => (intro w hx; (try dsimp only); (try go_simp); (try with_reducible rfl)))
        (try simp only [Act.put, List.setIfInBounds_toArray, List.set_cons_zero, List.set_cons_succ, List.getElem_toArray, List.getElem_cons_succ, List.getElem_cons_zero])
        refine wpAnyJ_done (by kernel_rfl) ?_ _
      clear z0 z1 z2 z3 y0 y1 y2 y3 s6 hS0
      go_wp2_with fail
      go_roundg (n - (kk + 1))
      case measure => omega
      case rel => exact ⟨kk + 1, by omega, by omega, by go_num, (show Aside _ from Below.drew BW2.out)⟩
    · have hltz : ¬ (kk : Int) < (n : Int) := by omega
      have e0 : kk = n := by omega
      subst e0
      have LW := hide lw
      clear lw
      go_wp2_with fail
      go_ret
      exact ⟨rfl, LW.out⟩
end Go.Proofs.YtilfcikhipadpaaDoor
end
