/- What messages are, and their numbers: the program's and the document's. -/
import Derived.Test.YthmedjlecikbiaaDoorKinds
set_option linter.unusedVariables false
namespace Go.Proofs.YthmedjlecikbiaaDoor
open Go.RowKit Go.Maps
attribute [local go_sem] Oper.semAt_some

def qAsk (m : Msg) : Bool := decide (m.c = 0) && decide (kindOf m.t = 1)
def qIs (m : Msg) : Bool := decide (m.c = 0) && (decide (kindOf m.t = 1) || decide (kindOf m.t = 2))
def qErr (m : Msg) : Bool := decide (kindOf m.t = 3)
theorem kindOf_cases (t : Int) : kindOf t = 0 ∨ kindOf t = 1 ∨ kindOf t = 2 ∨ kindOf t = 3 := by unfold kindOf; split <;> (try split) <;> (try split) <;> simp

theorem qAsk_of {m : Msg} (h : m.c = 0) : qAsk m = decide (kindOf m.t = 1) := by unfold qAsk; simp [h]
theorem qIs_of {m : Msg} (h : m.c = 0) : qIs m = (decide (kindOf m.t = 1) || decide (kindOf m.t = 2)) := by unfold qIs; simp [h]

set_option maxHeartbeats 1000000 in
theorem i_Query (m : Msg) (w : World) (ho : m.Ok) (hk : Kinds w) :
    Calls Tryd.prog 17 #[.agg #[.int .u8 m.t, .int .u8 m.c, .int .u16 m.n, .string m.r, .string m.d]] w (Ret (.tuple #[.bool (qAsk m), .bool (qIs m)]) w) := by
  obtain ⟨⟨t0, t1⟩, ⟨c0, c1⟩, -⟩ := ho
  obtain ⟨b, hc, hl0⟩ := (hk.below (fresh_below w (.cells #[.int .u8 m.t, .int .u8 m.c, .int .u16 m.n, .string m.r, .string m.d] 29))).look
  have hl := hl0 m.t ⟨t0, t1⟩
  clear hl0 hk
  obtain ⟨t, c, n, r, d⟩ := m
  simp only at t0 t1 c0 c1 hc hl ⊢
  by_cases h : c = 0
  · have e1 := qAsk_of (m := ⟨t, c, n, r, d⟩) h
    have e2 := qIs_of (m := ⟨t, c, n, r, d⟩) h
    simp only at e1 e2
    rw [e1, e2]
    clear e1 e2
    subst h
    have hx := kindOf_cases t
    generalize kindOf t = x at hx hl ⊢
    rcases hx with rfl | rfl | rfl | rfl
    all_goals
      go_enter Tryd.func17, Tryd.ntmps17
      go_wp2
      go_ret2
      exact ⟨rfl, (by (repeat' (first | with_reducible exact Below.refl _ _ | with_reducible refine Below.setCell ?_ (by first | exact Nat.le_refl _ | (dsimp only; omega)) _ | with_reducible refine bstep ?_ (fresh_below _ _) | with_reducible refine Below.drew ?_)))⟩
  · have e1 : qAsk ⟨t, c, n, r, d⟩ = false := by unfold qAsk; simp [h]
    have e2 : qIs ⟨t, c, n, r, d⟩ = false := by unfold qIs; simp [h]
    rw [e1, e2]
    have q1 : (c == 0) = false := by simp [h]
    have q2 : (c != 0) = true := by simp [h]
    clear e1 e2 hl hc
    go_enter Tryd.func17, Tryd.ntmps17
    go_wp2
    go_ret2
    exact ⟨rfl, (by (repeat' (first | with_reducible exact Below.refl _ _ | with_reducible refine Below.setCell ?_ (by first | exact Nat.le_refl _ | (dsimp only; omega)) _ | with_reducible refine bstep ?_ (fresh_below _ _) | with_reducible refine Below.drew ?_)))⟩

set_option maxHeartbeats 1000000 in
theorem i_Error (m : Msg) (w : World) (ho : m.Ok) (hk : Kinds w) :
    Calls Tryd.prog 19 #[.agg #[.int .u8 m.t, .int .u8 m.c, .int .u16 m.n, .string m.r, .string m.d]] w (Ret (.bool (qErr m)) w) := by
  obtain ⟨⟨t0, t1⟩, ⟨c0, c1⟩, -⟩ := ho
  obtain ⟨b, hc, hl0⟩ := (hk.below (fresh_below w (.cells #[.int .u8 m.t, .int .u8 m.c, .int .u16 m.n, .string m.r, .string m.d] 29))).look
  have hl := hl0 m.t ⟨t0, t1⟩
  clear hl0 hk
  obtain ⟨t, c, n, r, d⟩ := m
  simp only [qErr] at t0 t1 c0 c1 hc hl ⊢
  have hx := kindOf_cases t
  generalize kindOf t = x at hx hl ⊢
  rcases hx with rfl | rfl | rfl | rfl
  all_goals
    go_enter Tryd.func19, Tryd.ntmps19
    go_wp2
    go_ret
    exact ⟨rfl, (by (repeat' (first | with_reducible exact Below.refl _ _ | with_reducible refine Below.setCell ?_ (by first | exact Nat.le_refl _ | (dsimp only; omega)) _ | with_reducible refine bstep ?_ (fresh_below _ _) | with_reducible refine Below.drew ?_)))⟩

/-- which of the types that are told apart a type is -/
theorem type_cases (t : Int) : t = 8 ∨ t = 13 ∨ t = 0 ∨ t = 14 ∨ t = 3 ∨ t = 11 ∨ t = 12 ∨ (t ≠ 8 ∧ t ≠ 13 ∧ t ≠ 0 ∧ t ≠ 14 ∧ t ≠ 3 ∧ t ≠ 11 ∧ t ≠ 12) := by omega

set_option maxHeartbeats 1000000 in
theorem r7_Query (m : Msg) (w : World) :
    Calls Tryd.prog 18 #[.agg #[.int .u8 m.t, .int .u8 m.c, .int .u16 m.n, .string m.r, .string m.d]] w (Ret (.tuple #[.bool (qAsk m), .bool (qIs m)]) w) := by
  obtain ⟨t, c, n, r, d⟩ := m
  simp only
  by_cases h : c = 0
  · have e1 := qAsk_of (m := ⟨t, c, n, r, d⟩) h
    have e2 := qIs_of (m := ⟨t, c, n, r, d⟩) h
    simp only at e1 e2
    rw [e1, e2]
    clear e1 e2
    subst h
    rcases type_cases t with rfl | rfl | rfl | rfl | rfl | rfl | rfl | ⟨h1, h2, h3, h4, h5, h6, h7⟩
    case inr.inr.inr.inr.inr.inr.inr =>
      have e : kindOf t = 0 := by unfold kindOf; simp [h1, h2, h3, h4, h5, h6, h7]
      rw [e]
      have q1 : (t == 8) = false := by simp [h1]
      have q2 : (t == 13) = false := by simp [h2]
      have q3 : (t == 0) = false := by simp [h3]
      have q4 : (t == 14) = false := by simp [h4]
      clear e
      go_enter Tryd.func18, Tryd.ntmps18
      go_wp2
      go_ret2
      exact ⟨rfl, (by (repeat' (first | with_reducible exact Below.refl _ _ | with_reducible refine Below.setCell ?_ (by first | exact Nat.le_refl _ | (dsimp only; omega)) _ | with_reducible refine bstep ?_ (fresh_below _ _) | with_reducible refine Below.drew ?_)))⟩
    all_goals
      go_enter Tryd.func18, Tryd.ntmps18
      go_wp2
      go_ret2
      exact ⟨rfl, (by (repeat' (first | with_reducible exact Below.refl _ _ | with_reducible refine Below.setCell ?_ (by first | exact Nat.le_refl _ | (dsimp only; omega)) _ | with_reducible refine bstep ?_ (fresh_below _ _) | with_reducible refine Below.drew ?_)))⟩
  · have e1 : qAsk ⟨t, c, n, r, d⟩ = false := by unfold qAsk; simp [h]
    have e2 : qIs ⟨t, c, n, r, d⟩ = false := by unfold qIs; simp [h]
    rw [e1, e2]
    have q1 : (c == 0) = false := by simp [h]
    have q2 : (c != 0) = true := by simp [h]
    clear e1 e2
    go_enter Tryd.func18, Tryd.ntmps18
    go_wp2
    go_ret2
    exact ⟨rfl, (by (repeat' (first | with_reducible exact Below.refl _ _ | with_reducible refine Below.setCell ?_ (by first | exact Nat.le_refl _ | (dsimp only; omega)) _ | with_reducible refine bstep ?_ (fresh_below _ _) | with_reducible refine Below.drew ?_)))⟩

set_option maxHeartbeats 1000000 in
theorem r7_Error (m : Msg) (w : World) :
    Calls Tryd.prog 20 #[.agg #[.int .u8 m.t, .int .u8 m.c, .int .u16 m.n, .string m.r, .string m.d]] w (Ret (.bool (qErr m)) w) := by
  obtain ⟨t, c, n, r, d⟩ := m
  simp only [qErr]
  rcases type_cases t with rfl | rfl | rfl | rfl | rfl | rfl | rfl | ⟨h1, h2, h3, h4, h5, h6, h7⟩
  case inr.inr.inr.inr.inr.inr.inr =>
    have e : kindOf t = 0 := by unfold kindOf; simp [h1, h2, h3, h4, h5, h6, h7]
    rw [e]
    have q1 : (t == 3) = false := by simp [h5]
    have q2 : (t == 11) = false := by simp [h6]
    have q3 : (t == 12) = false := by simp [h7]
    clear e
    go_enter Tryd.func20, Tryd.ntmps20
    go_wp2
    go_ret
    exact ⟨rfl, (by (repeat' (first | with_reducible exact Below.refl _ _ | with_reducible refine Below.setCell ?_ (by first | exact Nat.le_refl _ | (dsimp only; omega)) _ | with_reducible refine bstep ?_ (fresh_below _ _) | with_reducible refine Below.drew ?_)))⟩
  all_goals
    go_enter Tryd.func20, Tryd.ntmps20
    go_wp2
    go_ret
    exact ⟨rfl, (by (repeat' (first | with_reducible exact Below.refl _ _ | with_reducible refine Below.setCell ?_ (by first | exact Nat.le_refl _ | (dsimp only; omega)) _ | with_reducible refine bstep ?_ (fresh_below _ _) | with_reducible refine Below.drew ?_)))⟩

/-- a message with another number -/
def msgID (m : Msg) (id : Int) : Msg := ⟨m.t, m.c, m.n, if 2 ≤ m.r.size then S (lay (L m.r) 0 id) else m.r, m.d⟩
theorem msgID_ok {m : Msg} (h : m.Ok) (id : Int) : (msgID m id).Ok := by
  refine ⟨h.1, h.2.1, h.2.2.1, ?_, h.2.2.2.2⟩
  show ByteArray.size (if 2 ≤ m.r.size then S (lay (L m.r) 0 id) else m.r) ≤ _
  split
  · rw [S_size, lay_length (by rw [L_length]; omega), L_length]; exact h.2.2.2.1
  · exact h.2.2.2.1

end Go.Proofs.YthmedjlecikbiaaDoor
