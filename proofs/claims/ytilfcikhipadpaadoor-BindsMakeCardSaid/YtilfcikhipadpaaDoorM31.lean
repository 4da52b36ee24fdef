/- Several texts of this claim, one behind the other. -/
import Derived.Test.YtilfcikhipadpaaDoorM30
import Derived.Test.YtilfcikhipadpaaDoorM19
import Derived.Test.YtilfcikhipadpaaDoorM29

section
/- binds: wants and endpoints, as arguments. -/
set_option linter.unusedVariables false
set_option linter.unusedSimpArgs false
namespace Go.Proofs.YtilfcikhipadpaaDoor
open Go.RowKit Go.Lib Go.ChangeShapes Go.WideShapes Go.Deep

structure Wnt.Ok (x : Wnt) : Prop where
  ii : 0 ≤ x.ii ∧ x.ii ≤ 4294967295
  ip : 0 ≤ x.ip ∧ x.ip ≤ 65535
  oi : 0 ≤ x.oi ∧ x.oi ≤ 4294967295
  op : 0 ≤ x.op ∧ x.op ≤ 65535
  a : 0 ≤ x.a ∧ x.a ≤ 4294967295
  f : 0 ≤ x.f ∧ x.f ≤ 65535
  t : 0 ≤ x.t ∧ x.t ≤ 65535
theorem point_reads : pointK.Reads Pt.Ok := by
  intro H enc W base spare held n cs x ht
  obtain ⟨x0, q0, w0⟩ := leaf_int (leafAt_of (n := 8) (i := 0) (u := 23) (by kernel_rfl) ht) Tryd.underlying23
  obtain ⟨x1, q1, w1⟩ := leaf_int (leafAt_of (n := 8) (i := 1) (u := 24) (by kernel_rfl) ht) Tryd.underlying24
  refine ⟨⟨x0, x1⟩, ⟨bounds_u32 w0, bounds_u16 w1⟩, fun j u hu => ?_⟩
  have hj : j < 2 := by
    have := (List.getElem?_eq_some_iff.1 hu).1
    simpa [pointK, Pt.cells] using this
  match j, hj with
  | 0, _ => rw [q0]; exact hu
  | 1, _ => rw [q1]; exact hu
theorem want_reads : wantK.Reads Wnt.Ok := by
  intro H enc W base spare held n cs x ht
  obtain ⟨x0, q0⟩ := leaf_bool (leafAt_of (n := 8) (i := 0) (u := 4) (by kernel_rfl) ht) Tryd.underlying4
  obtain ⟨x1, q1, w1⟩ := leaf_int (leafAt_of (n := 8) (i := 1) (u := 23) (by kernel_rfl) ht) Tryd.underlying23
  obtain ⟨x2, q2, w2⟩ := leaf_int (leafAt_of (n := 8) (i := 2) (u := 24) (by kernel_rfl) ht) Tryd.underlying24
  obtain ⟨x3, q3, w3⟩ := leaf_int (leafAt_of (n := 8) (i := 3) (u := 23) (by kernel_rfl) ht) Tryd.underlying23
  obtain ⟨x4, q4, w4⟩ := leaf_int (leafAt_of (n := 8) (i := 4) (u := 24) (by kernel_rfl) ht) Tryd.underlying24
  obtain ⟨x5, q5, w5⟩ := leaf_int (leafAt_of (n := 8) (i := 5) (u := 23) (by kernel_rfl) ht) Tryd.underlying23
  obtain ⟨x6, q6, w6⟩ := leaf_int (leafAt_of (n := 8) (i := 6) (u := 24) (by kernel_rfl) ht) Tryd.underlying24
  obtain ⟨x7, q7, w7⟩ := leaf_int (leafAt_of (n := 8) (i := 7) (u := 24) (by kernel_rfl) ht) Tryd.underlying24
  refine ⟨⟨x0, x1, x2, x3, x4, x5, x6, x7⟩, ⟨bounds_u32 w1, bounds_u16 w2, bounds_u32 w3, bounds_u16 w4, bounds_u32 w5, bounds_u16 w6, bounds_u16 w7⟩, fun j u hu => ?_⟩
  have hj : j < 8 := by
    have := (List.getElem?_eq_some_iff.1 hu).1
    simpa [wantK, Wnt.cells] using this
  match j, hj with
  | 0, _ => rw [q0]; exact hu
  | 1, _ => rw [q1]; exact hu
  | 2, _ => rw [q2]; exact hu
  | 3, _ => rw [q3]; exact hu
  | 4, _ => rw [q4]; exact hu
  | 5, _ => rw [q5]; exact hu
  | 6, _ => rw [q6]; exact hu
  | 7, _ => rw [q7]; exact hu
theorem open_points {H : Type} {enc : TypeId × Value → H} {W : World} {base : Nat} {spare : Nat → Bool} {held : Bool} {fuel : Nat} {v : Value} {x : DataW H × List MemPlace}
    (h : DataW.trod enc Tryd.prog W base spare held fuel 32 [v] = some x) : ∃ A n c l, v = .slice A n c ∧ n = l.length ∧ n ≤ c ∧ pointK.Has W A l ∧ pointK.Read W (.slice A n c) l ∧ (∀ d ∈ l, d.Ok) ∧ n ≤ 9223372036854775807 :=
  RowK.opened pointK Pt.Ok (by kernel_rfl) point_reads h
theorem open_wants {H : Type} {enc : TypeId × Value → H} {W : World} {base : Nat} {spare : Nat → Bool} {held : Bool} {fuel : Nat} {v : Value} {x : DataW H × List MemPlace}
    (h : DataW.trod enc Tryd.prog W base spare held fuel 29 [v] = some x) : ∃ A n c l, v = .slice A n c ∧ n = l.length ∧ n ≤ c ∧ wantK.Has W A l ∧ wantK.Read W (.slice A n c) l ∧ (∀ d ∈ l, d.Ok) ∧ n ≤ 9223372036854775807 :=
  RowK.opened wantK Wnt.Ok (by kernel_rfl) want_reads h
end Go.Proofs.YtilfcikhipadpaaDoor
end

section
/- BindsMake: the walk, as a whole. -/
set_option linter.unusedVariables false
namespace Go.Proofs.YtilfcikhipadpaaDoor
open Go.RowKit Go.Lib

theorem BindsMake_walk (a0 a1 a2 a3 a4 a5 a6 : Int) (a7 : Bool) (a8 : Int) (A : Option Addr) (n c : Nat) (l : List Wnt) (Ao : Option Addr) (no co : Nat) (os : List Pt) (now : Int) (w : World) (hTW : Lasts w ∧ Wds w)
    (b0 : 0 ≤ a0 ∧ a0 ≤ 255) (b1 : 0 ≤ a1 ∧ a1 ≤ 4294967295) (b2 : 0 ≤ a2 ∧ a2 ≤ 65535) (b3 : 0 ≤ a3 ∧ a3 ≤ 4294967295) (b4 : 0 ≤ a4 ∧ a4 ≤ 65535) (b5 : 0 ≤ a5 ∧ a5 ≤ 4294967295) (b6 : 0 ≤ a6 ∧ a6 ≤ 65535) (b8 : -9223372036854775808 ≤ a8 ∧ a8 ≤ 9223372036854775807)
    (hw : n = l.length ∧ n ≤ c ∧ wantK.Has w A l ∧ wantK.Read w (.slice A n c) l ∧ (∀ d ∈ l, d.Ok) ∧ n ≤ 9223372036854775807) (ho : no = os.length ∧ no ≤ co ∧ pointK.Has w Ao os ∧ pointK.Read w (.slice Ao no co) os ∧ (∀ d ∈ os, d.Ok) ∧ no ≤ 9223372036854775807) (hb : -9223372036854775808 ≤ now ∧ now ≤ 9223372036854775807) :
    Calls Tryd.prog 3 #[.agg #[.int .u8 a0, .int .u32 a1, .int .u16 a2, .int .u32 a3, .int .u16 a4, .int .u32 a5, .int .u16 a6, .bool a7, .int .i64 a8, .slice A n c], .slice Ao no co, .int .i64 now] w (Ret (.bool true) w) := by
  obtain ⟨h1, h2, h3, _, _, h4⟩ := hw
  obtain ⟨k1, k2, k3, k4, _, k5⟩ := ho
  exact BindsMake_walk0 ⟨⟨a0, a1, a2, a3, a4⟩, a5, a6, a7, a8, l⟩ A n c Ao no co os now w hTW.1 hTW.2 h1 h3 h2 k1 k3 k4 k2 b0 hb h4 k5
end Go.Proofs.YtilfcikhipadpaaDoor
end
