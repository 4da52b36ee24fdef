/- Several texts of this claim, one behind the other. -/
import Derived.Test.YtedfdphapcanoaaGreatDoorM34
import Derived.Test.YtedfdphapcanoaaGreatDoorRows
import Derived.Maps.OwnOps
import Derived.Maps.OwnSet

section
/- The kinds of messages, as the program lays them: what a look into them gives; what the program's Query and Error tell. -/
set_option linter.unusedVariables false
namespace Go.Proofs.YtedfdphapcanoaaGreatDoor
open Go.RowKit Go.Maps
attribute [local go_sem] Oper.semAt_some

/-- what a type is: 1: it asks; 2: it is told; 3: an error; 0: none of these -/
def kindOf (t : Int) : Int := if t = 8 ∨ t = 13 then 1 else if t = 0 ∨ t = 14 then 2 else if t = 3 ∨ t = 11 ∨ t = 12 then 3 else 0
def Kinds (w : World) : Prop :=
  ∃ b n, w.cell? ⟨2, 0, none⟩ = some (.map (some b)) ∧ w.ownsMap (H := Unit) Tryz.prog 5 (plainElem Tryz.prog 3) b n Rows.laid_porter_icmp_kinds
theorem Kinds.below {w w' : World} (h : Kinds w) (k : Below w.heap.size w w') : Kinds w' := by
  obtain ⟨b, n, hc, es, clock, hb, hF⟩ := h
  exact ⟨b, n, cellAt k hc, es, clock, (k.block b (Array.getElem?_eq_some_iff.1 hb).1).trans hb, hF⟩
def kindsB (t : Nat) : Bool := match (Rows.laid_porter_icmp_kinds (H := Unit)).atKey (.int .u8 (t : Int)) (.lit (.int .i64 0)) with | .lit (.int .i64 c) => c == kindOf t | _ => false
theorem kinds_b : (List.range 256).all kindsB = true := by kernel_rfl
theorem kinds_at {t : Nat} (h : t < 256) : (Rows.laid_porter_icmp_kinds (H := Unit)).atKey (.int .u8 (t : Int)) (.lit (.int .i64 0)) = .lit (.int .i64 (kindOf t)) := by
  have hb := List.all_eq_true.1 kinds_b t (List.mem_range.2 h)
  unfold kindsB at hb
  split at hb
  · rename_i c e
    rw [e, beq_iff_eq.1 hb]
  · cases hb
theorem Kinds.look {w : World} (h : Kinds w) : ∃ b, w.cell? ⟨2, 0, none⟩ = some (.map (some b)) ∧
    ∀ t : Int, 0 ≤ t ∧ t ≤ 255 → (Instr.lookup 364 (.map (some b)) (.int .u8 t) false).run Tryz.prog w = .ok (.int .i64 (kindOf t)) w := by
  obtain ⟨b, n, hc, hown⟩ := h
  refine ⟨b, hc, fun t ht => ?_⟩
  obtain ⟨c, hrun, hat, hwc⟩ := hown.lookup_int (t := 364) (int_keyed Tryz.underlying5) Tryz.underlying364 Tryz.underlying3 (by kernel_rfl) (key := .int .u8 t) (keyOf_int_mk Tryz.underlying5 (by go_wf))
  have h2 := kinds_at (t := t.toNat) (by omega)
  simp only [Int.toNat_of_nonneg ht.1] at h2
  rw [h2] at hat
  generalize kindOf t = z at hat ⊢
  have hz : z = c := by cases hat; rfl
  rw [hz]; exact hrun
end Go.Proofs.YtedfdphapcanoaaGreatDoor
end

section
/- What messages are, and their numbers: the program's and the document's. -/
set_option linter.unusedVariables false
namespace Go.Proofs.YtedfdphapcanoaaGreatDoor
open Go.RowKit Go.Maps
attribute [local go_sem] Oper.semAt_some

def qAsk (m : Msg) : Bool := decide (m.c = 0) && decide (kindOf m.t = 1)
def qIs (m : Msg) : Bool := decide (m.c = 0) && (decide (kindOf m.t = 1) || decide (kindOf m.t = 2))
def qErr (m : Msg) : Bool := decide (kindOf m.t = 3)
theorem kindOf_cases (t : Int) : kindOf t = 0 ∨ kindOf t = 1 ∨ kindOf t = 2 ∨ kindOf t = 3 := by unfold kindOf; split <;> (try split) <;> (try split) <;> simp

theorem qAsk_of {m : Msg} (h : m.c = 0) : qAsk m = decide (kindOf m.t = 1) := by unfold qAsk; simp [h]
theorem qIs_of {m : Msg} (h : m.c = 0) : qIs m = (decide (kindOf m.t = 1) || decide (kindOf m.t = 2)) := by unfold qIs; simp [h]

set_option maxHeartbeats 1000000 in
theorem i_Query (m : Msg) (w : World) (ho : m.Ok) (hk : Kinds w) :
    Calls Tryz.prog 190 #[.agg #[.int .u8 m.t, .int .u8 m.c, .int .u16 m.n, .string m.r, .string m.d]] w (Ret (.tuple #[.bool (qAsk m), .bool (qIs m)]) w) := by
  obtain ⟨⟨t0, t1⟩, ⟨c0, c1⟩, -⟩ := ho
  obtain ⟨b, hc, hl0⟩ := (hk.below (fresh_below w (.cells #[.int .u8 m.t, .int .u8 m.c, .int .u16 m.n, .string m.r, .string m.d] 237))).look
  have hl := hl0 m.t ⟨t0, t1⟩
  clear hl0 hk
  obtain ⟨t, c, n, r, d⟩ := m
  simp only at t0 t1 c0 c1 hc hl ⊢
  by_cases h : c = 0
  · have e1 := qAsk_of (m := ⟨t, c, n, r, d⟩) h
    have e2 := qIs_of (m := ⟨t, c, n, r, d⟩) h
    simp only at e1 e2
    rw [e1, e2]
    clear e1 e2
    subst h
    have hx := kindOf_cases t
    generalize kindOf t = x at hx hl ⊢
    rcases hx with rfl | rfl | rfl | rfl
    all_goals
      go_enter Tryz.func190, Tryz.ntmps190
      go_wp2
      go_ret2
      exact ⟨rfl, (by (repeat' (first | with_reducible exact Below.refl _ _ | with_reducible refine Below.setCell ?_ (by first | exact Nat.le_refl _ | (dsimp only; omega)) _ | with_reducible refine bstep ?_ (fresh_below _ _) | with_reducible refine Below.drew ?_)))⟩
  · have e1 : qAsk ⟨t, c, n, r, d⟩ = false := by unfold qAsk; simp [h]
    have e2 : qIs ⟨t, c, n, r, d⟩ = false := by unfold qIs; simp [h]
    rw [e1, e2]
    have q1 : (c == 0) = false := by simp [h]
    have q2 : (c != 0) = true := by simp [h]
    clear e1 e2 hl hc
    go_enter Tryz.func190, Tryz.ntmps190
    go_wp2
    go_ret2
    exact ⟨rfl, (by (repeat' (first | with_reducible exact Below.refl _ _ | with_reducible refine Below.setCell ?_ (by first | exact Nat.le_refl _ | (dsimp only; omega)) _ | with_reducible refine bstep ?_ (fresh_below _ _) | with_reducible refine Below.drew ?_)))⟩

set_option maxHeartbeats 1000000 in
theorem i_Error (m : Msg) (w : World) (ho : m.Ok) (hk : Kinds w) :
    Calls Tryz.prog 192 #[.agg #[.int .u8 m.t, .int .u8 m.c, .int .u16 m.n, .string m.r, .string m.d]] w (Ret (.bool (qErr m)) w) := by
  obtain ⟨⟨t0, t1⟩, ⟨c0, c1⟩, -⟩ := ho
  obtain ⟨b, hc, hl0⟩ := (hk.below (fresh_below w (.cells #[.int .u8 m.t, .int .u8 m.c, .int .u16 m.n, .string m.r, .string m.d] 237))).look
  have hl := hl0 m.t ⟨t0, t1⟩
  clear hl0 hk
  obtain ⟨t, c, n, r, d⟩ := m
  simp only [qErr] at t0 t1 c0 c1 hc hl ⊢
  have hx := kindOf_cases t
  generalize kindOf t = x at hx hl ⊢
  rcases hx with rfl | rfl | rfl | rfl
  all_goals
    go_enter Tryz.func192, Tryz.ntmps192
    go_wp2
    go_ret
    exact ⟨rfl, (by (repeat' (first | with_reducible exact Below.refl _ _ | with_reducible refine Below.setCell ?_ (by first | exact Nat.le_refl _ | (dsimp only; omega)) _ | with_reducible refine bstep ?_ (fresh_below _ _) | with_reducible refine Below.drew ?_)))⟩

/-- which of the types that are told apart a type is -/
theorem type_cases (t : Int) : t = 8 ∨ t = 13 ∨ t = 0 ∨ t = 14 ∨ t = 3 ∨ t = 11 ∨ t = 12 ∨ (t ≠ 8 ∧ t ≠ 13 ∧ t ≠ 0 ∧ t ≠ 14 ∧ t ≠ 3 ∧ t ≠ 11 ∧ t ≠ 12) := by omega

set_option maxHeartbeats 1000000 in
theorem r7_Query (m : Msg) (w : World) :
    Calls Tryz.prog 197 #[.agg #[.int .u8 m.t, .int .u8 m.c, .int .u16 m.n, .string m.r, .string m.d]] w (Ret (.tuple #[.bool (qAsk m), .bool (qIs m)]) w) := by
  obtain ⟨t, c, n, r, d⟩ := m
  simp only
  by_cases h : c = 0
  · have e1 := qAsk_of (m := ⟨t, c, n, r, d⟩) h
    have e2 := qIs_of (m := ⟨t, c, n, r, d⟩) h
    simp only at e1 e2
    rw [e1, e2]
    clear e1 e2
    subst h
    rcases type_cases t with rfl | rfl | rfl | rfl | rfl | rfl | rfl | ⟨h1, h2, h3, h4, h5, h6, h7⟩
    case inr.inr.inr.inr.inr.inr.inr =>
      have e : kindOf t = 0 := by unfold kindOf; simp [h1, h2, h3, h4, h5, h6, h7]
      rw [e]
      have q1 : (t == 8) = false := by simp [h1]
      have q2 : (t == 13) = false := by simp [h2]
      have q3 : (t == 0) = false := by simp [h3]
      have q4 : (t == 14) = false := by simp [h4]
      clear e
      go_enter Tryz.func197, Tryz.ntmps197
      go_wp2
      go_ret2
      exact ⟨rfl, (by (repeat' (first | with_reducible exact Below.refl _ _ | with_reducible refine Below.setCell ?_ (by first | exact Nat.le_refl _ | (dsimp only; omega)) _ | with_reducible refine bstep ?_ (fresh_below _ _) | with_reducible refine Below.drew ?_)))⟩
    all_goals
      go_enter Tryz.func197, Tryz.ntmps197
      go_wp2
      go_ret2
      exact ⟨rfl, (by (repeat' (first | with_reducible exact Below.refl _ _ | with_reducible refine Below.setCell ?_ (by first | exact Nat.le_refl _ | (dsimp only; omega)) _ | with_reducible refine bstep ?_ (fresh_below _ _) | with_reducible refine Below.drew ?_)))⟩
  · have e1 : qAsk ⟨t, c, n, r, d⟩ = false := by unfold qAsk; simp [h]
    have e2 : qIs ⟨t, c, n, r, d⟩ = false := by unfold qIs; simp [h]
    rw [e1, e2]
    have q1 : (c == 0) = false := by simp [h]
    have q2 : (c != 0) = true := by simp [h]
    clear e1 e2
    go_enter Tryz.func197, Tryz.ntmps197
    go_wp2
    go_ret2
    exact ⟨rfl, (by (repeat' (first | with_reducible exact Below.refl _ _ | with_reducible refine Below.setCell ?_ (by first | exact Nat.le_refl _ | (dsimp only; omega)) _ | with_reducible refine bstep ?_ (fresh_below _ _) | with_reducible refine Below.drew ?_)))⟩

set_option maxHeartbeats 1000000 in
theorem r7_Error (m : Msg) (w : World) :
    Calls Tryz.prog 198 #[.agg #[.int .u8 m.t, .int .u8 m.c, .int .u16 m.n, .string m.r, .string m.d]] w (Ret (.bool (qErr m)) w) := by
  obtain ⟨t, c, n, r, d⟩ := m
  simp only [qErr]
  rcases type_cases t with rfl | rfl | rfl | rfl | rfl | rfl | rfl | ⟨h1, h2, h3, h4, h5, h6, h7⟩
  case inr.inr.inr.inr.inr.inr.inr =>
    have e : kindOf t = 0 := by unfold kindOf; simp [h1, h2, h3, h4, h5, h6, h7]
    rw [e]
    have q1 : (t == 3) = false := by simp [h5]
    have q2 : (t == 11) = false := by simp [h6]
    have q3 : (t == 12) = false := by simp [h7]
    clear e
    go_enter Tryz.func198, Tryz.ntmps198
    go_wp2
    go_ret
    exact ⟨rfl, (by (repeat' (first | with_reducible exact Below.refl _ _ | with_reducible refine Below.setCell ?_ (by first | exact Nat.le_refl _ | (dsimp only; omega)) _ | with_reducible refine bstep ?_ (fresh_below _ _) | with_reducible refine Below.drew ?_)))⟩
  all_goals
    go_enter Tryz.func198, Tryz.ntmps198
    go_wp2
    go_ret
    exact ⟨rfl, (by (repeat' (first | with_reducible exact Below.refl _ _ | with_reducible refine Below.setCell ?_ (by first | exact Nat.le_refl _ | (dsimp only; omega)) _ | with_reducible refine bstep ?_ (fresh_below _ _) | with_reducible refine Below.drew ?_)))⟩

/-- a message with another number -/
def msgID (m : Msg) (id : Int) : Msg := ⟨m.t, m.c, m.n, if 2 ≤ m.r.size then S (lay (L m.r) 0 id) else m.r, m.d⟩
theorem msgID_ok {m : Msg} (h : m.Ok) (id : Int) : (msgID m id).Ok := by
  refine ⟨h.1, h.2.1, h.2.2.1, ?_, h.2.2.2.2⟩
  show ByteArray.size (if 2 ≤ m.r.size then S (lay (L m.r) 0 id) else m.r) ≤ _
  split
  · rw [S_size, lay_length (by rw [L_length]; omega), L_length]; exact h.2.2.2.1
  · exact h.2.2.2.1

end Go.Proofs.YtedfdphapcanoaaGreatDoor
end
