/- Several texts of this claim, one behind the other. -/
import Derived.Test.YtilfcikhipadpaaGreatDoorK19
import Derived.Deep.RegionHeldLaw
import Derived.Deep.RegionHeld3

section
/- What messages are, and their numbers: the program's and the document's. -/
set_option linter.unusedVariables false
namespace Go.Proofs.YtilfcikhipadpaaGreatDoor
open Go.RowKit Go.Maps
attribute [local go_sem] Oper.semAt_some

def qAsk (m : Msg) : Bool := decide (m.c = 0) && decide (kindOf m.t = 1)
def qIs (m : Msg) : Bool := decide (m.c = 0) && (decide (kindOf m.t = 1) || decide (kindOf m.t = 2))
def qErr (m : Msg) : Bool := decide (kindOf m.t = 3)
theorem kindOf_cases (t : Int) : kindOf t = 0 ∨ kindOf t = 1 ∨ kindOf t = 2 ∨ kindOf t = 3 := by unfold kindOf; split <;> (try split) <;> (try split) <;> simp

theorem qAsk_of {m : Msg} (h : m.c = 0) : qAsk m = decide (kindOf m.t = 1) := by unfold qAsk; simp [h]
theorem qIs_of {m : Msg} (h : m.c = 0) : qIs m = (decide (kindOf m.t = 1) || decide (kindOf m.t = 2)) := by unfold qIs; simp [h]

set_option maxHeartbeats 1000000 in
theorem i_Query (m : Msg) (w : World) (ho : m.Ok) (hk : Kinds w) :
    Calls Tryz.prog 182 #[.agg #[.int .u8 m.t, .int .u8 m.c, .int .u16 m.n, .string m.r, .string m.d]] w (Ret (.tuple #[.bool (qAsk m), .bool (qIs m)]) w) := by
  obtain ⟨⟨t0, t1⟩, ⟨c0, c1⟩, -⟩ := ho
  obtain ⟨b, hc, hl0⟩ := (hk.below (fresh_below w (.cells #[.int .u8 m.t, .int .u8 m.c, .int .u16 m.n, .string m.r, .string m.d] 166))).look
  have hl := hl0 m.t ⟨t0, t1⟩
  clear hl0 hk
  obtain ⟨t, c, n, r, d⟩ := m
  simp only at t0 t1 c0 c1 hc hl ⊢
  by_cases h : c = 0
  · have e1 := qAsk_of (m := ⟨t, c, n, r, d⟩) h
    have e2 := qIs_of (m := ⟨t, c, n, r, d⟩) h
    simp only at e1 e2
    rw [e1, e2]
    clear e1 e2
    subst h
    have hx := kindOf_cases t
    generalize kindOf t = x at hx hl ⊢
    rcases hx with rfl | rfl | rfl | rfl
    all_goals
      go_enter Tryz.func182, Tryz.ntmps182
      go_wp2
      go_ret2
      exact ⟨rfl, (by (repeat' (first | with_reducible exact Below.refl _ _ | with_reducible refine Below.setCell ?_ (by first | exact Nat.le_refl _ | (dsimp only; omega)) _ | with_reducible refine bstep ?_ (fresh_below _ _) | with_reducible refine Below.drew ?_)))⟩
  · have e1 : qAsk ⟨t, c, n, r, d⟩ = false := by unfold qAsk; simp [h]
    have e2 : qIs ⟨t, c, n, r, d⟩ = false := by unfold qIs; simp [h]
    rw [e1, e2]
    have q1 : (c == 0) = false := by simp [h]
    have q2 : (c != 0) = true := by simp [h]
    clear e1 e2 hl hc
    go_enter Tryz.func182, Tryz.ntmps182
    go_wp2
    go_ret2
    exact ⟨rfl, (by (repeat' (first | with_reducible exact Below.refl _ _ | with_reducible refine Below.setCell ?_ (by first | exact Nat.le_refl _ | (dsimp only; omega)) _ | with_reducible refine bstep ?_ (fresh_below _ _) | with_reducible refine Below.drew ?_)))⟩

set_option maxHeartbeats 1000000 in
theorem i_Error (m : Msg) (w : World) (ho : m.Ok) (hk : Kinds w) :
    Calls Tryz.prog 184 #[.agg #[.int .u8 m.t, .int .u8 m.c, .int .u16 m.n, .string m.r, .string m.d]] w (Ret (.bool (qErr m)) w) := by
  obtain ⟨⟨t0, t1⟩, ⟨c0, c1⟩, -⟩ := ho
  obtain ⟨b, hc, hl0⟩ := (hk.below (fresh_below w (.cells #[.int .u8 m.t, .int .u8 m.c, .int .u16 m.n, .string m.r, .string m.d] 166))).look
  have hl := hl0 m.t ⟨t0, t1⟩
  clear hl0 hk
  obtain ⟨t, c, n, r, d⟩ := m
  simp only [qErr] at t0 t1 c0 c1 hc hl ⊢
  have hx := kindOf_cases t
  generalize kindOf t = x at hx hl ⊢
  rcases hx with rfl | rfl | rfl | rfl
  all_goals
    go_enter Tryz.func184, Tryz.ntmps184
    go_wp2
    go_ret
    exact ⟨rfl, (by (repeat' (first | with_reducible exact Below.refl _ _ | with_reducible refine Below.setCell ?_ (by first | exact Nat.le_refl _ | (dsimp only; omega)) _ | with_reducible refine bstep ?_ (fresh_below _ _) | with_reducible refine Below.drew ?_)))⟩

/-- which of the types that are told apart a type is -/
theorem type_cases (t : Int) : t = 8 ∨ t = 13 ∨ t = 0 ∨ t = 14 ∨ t = 3 ∨ t = 11 ∨ t = 12 ∨ (t ≠ 8 ∧ t ≠ 13 ∧ t ≠ 0 ∧ t ≠ 14 ∧ t ≠ 3 ∧ t ≠ 11 ∧ t ≠ 12) := by omega

set_option maxHeartbeats 1000000 in
theorem r7_Query (m : Msg) (w : World) :
    Calls Tryz.prog 85 #[.agg #[.int .u8 m.t, .int .u8 m.c, .int .u16 m.n, .string m.r, .string m.d]] w (Ret (.tuple #[.bool (qAsk m), .bool (qIs m)]) w) := by
  obtain ⟨t, c, n, r, d⟩ := m
  simp only
  by_cases h : c = 0
  · have e1 := qAsk_of (m := ⟨t, c, n, r, d⟩) h
    have e2 := qIs_of (m := ⟨t, c, n, r, d⟩) h
    simp only at e1 e2
    rw [e1, e2]
    clear e1 e2
    subst h
    rcases type_cases t with rfl | rfl | rfl | rfl | rfl | rfl | rfl | ⟨h1, h2, h3, h4, h5, h6, h7⟩
    case inr.inr.inr.inr.inr.inr.inr =>
      have e : kindOf t = 0 := by unfold kindOf; simp [h1, h2, h3, h4, h5, h6, h7]
      rw [e]
      have q1 : (t == 8) = false := by simp [h1]
      have q2 : (t == 13) = false := by simp [h2]
      have q3 : (t == 0) = false := by simp [h3]
      have q4 : (t == 14) = false := by simp [h4]
      clear e
      go_enter Tryz.func85, Tryz.ntmps85
      go_wp2
      go_ret2
      exact ⟨rfl, (by (repeat' (first | with_reducible exact Below.refl _ _ | with_reducible refine Below.setCell ?_ (by first | exact Nat.le_refl _ | (dsimp only; omega)) _ | with_reducible refine bstep ?_ (fresh_below _ _) | with_reducible refine Below.drew ?_)))⟩
    all_goals
      go_enter Tryz.func85, Tryz.ntmps85
      go_wp2
      go_ret2
      exact ⟨rfl, (by (repeat' (first | with_reducible exact Below.refl _ _ | with_reducible refine Below.setCell ?_ (by first | exact Nat.le_refl _ | (dsimp only; omega)) _ | with_reducible refine bstep ?_ (fresh_below _ _) | with_reducible refine Below.drew ?_)))⟩
  · have e1 : qAsk ⟨t, c, n, r, d⟩ = false := by unfold qAsk; simp [h]
    have e2 : qIs ⟨t, c, n, r, d⟩ = false := by unfold qIs; simp [h]
    rw [e1, e2]
    have q1 : (c == 0) = false := by simp [h]
    have q2 : (c != 0) = true := by simp [h]
    clear e1 e2
    go_enter Tryz.func85, Tryz.ntmps85
    go_wp2
    go_ret2
    exact ⟨rfl, (by (repeat' (first | with_reducible exact Below.refl _ _ | with_reducible refine Below.setCell ?_ (by first | exact Nat.le_refl _ | (dsimp only; omega)) _ | with_reducible refine bstep ?_ (fresh_below _ _) | with_reducible refine Below.drew ?_)))⟩

set_option maxHeartbeats 1000000 in
theorem r7_Error (m : Msg) (w : World) :
    Calls Tryz.prog 86 #[.agg #[.int .u8 m.t, .int .u8 m.c, .int .u16 m.n, .string m.r, .string m.d]] w (Ret (.bool (qErr m)) w) := by
  obtain ⟨t, c, n, r, d⟩ := m
  simp only [qErr]
  rcases type_cases t with rfl | rfl | rfl | rfl | rfl | rfl | rfl | ⟨h1, h2, h3, h4, h5, h6, h7⟩
  case inr.inr.inr.inr.inr.inr.inr =>
    have e : kindOf t = 0 := by unfold kindOf; simp [h1, h2, h3, h4, h5, h6, h7]
    rw [e]
    have q1 : (t == 3) = false := by simp [h5]
    have q2 : (t == 11) = false := by simp [h6]
    have q3 : (t == 12) = false := by simp [h7]
    clear e
    go_enter Tryz.func86, Tryz.ntmps86
    go_wp2
    go_ret
    exact ⟨rfl, (by (repeat' (first | with_reducible exact Below.refl _ _ | with_reducible refine Below.setCell ?_ (by first | exact Nat.le_refl _ | (dsimp only; omega)) _ | with_reducible refine bstep ?_ (fresh_below _ _) | with_reducible refine Below.drew ?_)))⟩
  all_goals
    go_enter Tryz.func86, Tryz.ntmps86
    go_wp2
    go_ret
    exact ⟨rfl, (by (repeat' (first | with_reducible exact Below.refl _ _ | with_reducible refine Below.setCell ?_ (by first | exact Nat.le_refl _ | (dsimp only; omega)) _ | with_reducible refine bstep ?_ (fresh_below _ _) | with_reducible refine Below.drew ?_)))⟩

/-- a message with another number -/
def msgID (m : Msg) (id : Int) : Msg := ⟨m.t, m.c, m.n, if 2 ≤ m.r.size then S (lay (L m.r) 0 id) else m.r, m.d⟩
end Go.Proofs.YtilfcikhipadpaaGreatDoor
end

section
/- WithID over this program. -/
set_option linter.unusedVariables false
namespace Go.Proofs.YtilfcikhipadpaaGreatDoor
open Go.RowKit Go.Maps
attribute [local go_sem] Oper.semAt_some

set_option maxHeartbeats 4000000 in
theorem r7_WithID (m : Msg) (id : Int) (w : World) (ho : m.Ok) (hi : 0 ≤ id ∧ id ≤ 65535) :
    Calls Tryz.prog 135 #[.agg #[.int .u8 m.t, .int .u8 m.c, .int .u16 m.n, .string m.r, .string m.d], .int .u16 id] w (Ret (.agg #[.int .u8 (msgID m id).t, .int .u8 (msgID m id).c, .int .u16 (msgID m id).n, .string (msgID m id).r, .string (msgID m id).d]) w) := by
  obtain ⟨-, -, -, hr, -⟩ := ho
  obtain ⟨t, c, n, r, d⟩ := m
  have c1 := fun w => r_Put16 id w hi.1 hi.2
  simp only [msgID] at hr ⊢
  by_cases h2 : 2 ≤ r.size
  · rw [if_pos h2]
    have hz : (S (put16 id)).size = 2 := rfl
    have he : S (put16 id) ++ r.extract 2 r.size = S (lay (L r) 0 id) := by
      apply L_inj; rw [L_append, L_from]; rfl
    obtain ⟨p, hp⟩ : ∃ p, p = S (put16 id) := ⟨_, rfl⟩
    obtain ⟨u, hu⟩ : ∃ u, u = S (lay (L r) 0 id) := ⟨_, rfl⟩
    rw [← hp] at c1 hz he
    rw [← hu] at he ⊢
    have zr : (r.extract 2 r.size).size ≤ 140737488351232 := by rw [ByteArray.size_extract]; omega
    have i1 : (2 : Int) ≤ (r.size : Int) := by omega
    have C1 := hide c1; have HE := hide he
    clear c1 hp hu he
    go_enter Tryz.func135, Tryz.ntmps135
    have d0 := Cells.new w #[.int .u8 t, .int .u8 c, .int .u16 n, .string r, .string d] 164
    replace d0 := Cells.below (fresh_below (w.alloc (.cells #[.int .u8 t, .int .u8 c, .int .u16 n, .string r, .string d] 164)) (.cells #[.int .u8 0, .int .u8 0, .int .u16 0, .string { data := #[] }, .string { data := #[] }] 164)) d0
    have d1 := Cells.new (w.alloc (.cells #[.int .u8 t, .int .u8 c, .int .u16 n, .string r, .string d] 164)) #[.int .u8 0, .int .u8 0, .int .u16 0, .string { data := #[] }, .string { data := #[] }] 164
    rw [World.size_alloc] at d1
    go_wp2_with fail
    go_region_with (first | (go_at_call 118; (with_reducible refine (C1.out _).mono ?_); rintro e wq ⟨rfl, bq⟩; have D0 := Cells.up d0 (by (repeat' (first | with_reducible exact Below.refl _ _ | with_reducible refine bstep ?_ (fresh_below _ _) | with_reducible refine Below.drew ?_))) bq; have D1 := Cells.up d1 (by (repeat' (first | with_reducible exact Below.refl _ _ | with_reducible refine bstep ?_ (fresh_below _ _) | with_reducible refine Below.drew ?_))) bq; have bq2 : Below w.heap.size w wq := (by (refine bstep ?_ bq); (repeat' (first | with_reducible exact Below.refl _ _ | with_reducible refine bstep ?_ (fresh_below _ _) | with_reducible refine Below.drew ?_))); have xD0_0 : wq.cell? ⟨w.heap.size, 0, none⟩ = some (.int .u8 t) := D0.at_ 0; have yD0_0 : wq.frozen? ⟨w.heap.size, 0, none⟩ = false := D0.free 0; have xD0_1 : wq.cell? ⟨w.heap.size, 1, none⟩ = some (.int .u8 c) := D0.at_ 1; have yD0_1 : wq.frozen? ⟨w.heap.size, 1, none⟩ = false := D0.free 1; have xD0_2 : wq.cell? ⟨w.heap.size, 2, none⟩ = some (.int .u16 n) := D0.at_ 2; have yD0_2 : wq.frozen? ⟨w.heap.size, 2, none⟩ = false := D0.free 2; have xD0_3 : wq.cell? ⟨w.heap.size, 3, none⟩ = some (.string r) := D0.at_ 3; have yD0_3 : wq.frozen? ⟨w.heap.size, 3, none⟩ = false := D0.free 3; have xD0_4 : wq.cell? ⟨w.heap.size, 4, none⟩ = some (.string d) := D0.at_ 4; have yD0_4 : wq.frozen? ⟨w.heap.size, 4, none⟩ = false := D0.free 4; have xD1_0 : wq.cell? ⟨w.heap.size + 1, 0, none⟩ = some (.int .u8 0) := D1.at_ 0; have yD1_0 : wq.frozen? ⟨w.heap.size + 1, 0, none⟩ = false := D1.free 0; have xD1_1 : wq.cell? ⟨w.heap.size + 1, 1, none⟩ = some (.int .u8 0) := D1.at_ 1; have yD1_1 : wq.frozen? ⟨w.heap.size + 1, 1, none⟩ = false := D1.free 1; have xD1_2 : wq.cell? ⟨w.heap.size + 1, 2, none⟩ = some (.int .u16 0) := D1.at_ 2; have yD1_2 : wq.frozen? ⟨w.heap.size + 1, 2, none⟩ = false := D1.free 2; have xD1_3 : wq.cell? ⟨w.heap.size + 1, 3, none⟩ = some (.string { data := #[] }) := D1.at_ 3; have yD1_3 : wq.frozen? ⟨w.heap.size + 1, 3, none⟩ = false := D1.free 3; have xD1_4 : wq.cell? ⟨w.heap.size + 1, 4, none⟩ = some (.string { data := #[] }) := D1.at_ 4; have yD1_4 : wq.frozen? ⟨w.heap.size + 1, 4, none⟩ = false := D1.free 4))
    all_goals
      have zq := bq2.size
      go_wp2
      (try simp only [Exit.inBlock, Exit.then]); refine bodyPost_ret (by simp [results, Tryz.results135, go_sem, *]; try rfl) rfl ?_
      exact ⟨by rw [HE.out], by (repeat' (first | with_reducible exact bq2 | with_reducible refine Below.setCell ?_ (by first | exact Nat.le_refl _ | (dsimp only; omega)) _ | with_reducible refine bstep ?_ (fresh_below _ _) | with_reducible refine Below.drew ?_))⟩
  · rw [if_neg h2]
    have i1 : ¬ (2 : Int) ≤ (r.size : Int) := by omega
    go_enter Tryz.func135, Tryz.ntmps135
    go_wp2
    (try simp only [Exit.inBlock, Exit.then]); refine bodyPost_ret (by simp [results, Tryz.results135, go_sem, *]; try rfl) rfl ?_
    exact ⟨rfl, (by (repeat' (first | with_reducible exact Below.refl _ _ | with_reducible refine Below.setCell ?_ (by first | exact Nat.le_refl _ | (dsimp only; omega)) _ | with_reducible refine bstep ?_ (fresh_below _ _) | with_reducible refine Below.drew ?_)))⟩
end Go.Proofs.YtilfcikhipadpaaGreatDoor
end

section
/- rewrite's small functions over this program. -/
set_option linter.unusedVariables false
set_option linter.unusedSimpArgs false
namespace Go.Proofs.YtilfcikhipadpaaGreatDoor
open Go.RowKit
attribute [local go_sem] Oper.semAt_some

end Go.Proofs.YtilfcikhipadpaaGreatDoor
end
