/- Several texts of this claim, one behind the other. -/
import Derived.Test.YtpidgmamollmgaaDoorM31
import Derived.Test.YtpidgmamollmgaaDoorM34
import Derived.Test.YtpidgmamollmgaaDoorM33
import Derived.ProofKit
import Derived.OpenShut
import Derived.SizedLaws
import Derived.Test.YtpidgmamollmgaaDoorM0

section
/- RewriteTwice walked. -/
set_option linter.unusedVariables false
set_option linter.unusedSimpArgs false
namespace Go.Proofs.YtpidgmamollmgaaDoor
open Go.RowKit
attribute [local go_sem] Oper.semAt_some

set_option maxRecDepth 100000 in
set_option maxHeartbeats 4000000 in
theorem twice_long (s : ByteArray) (a b c d a2 b2 c2 d2 : Int) (w : World) (T0 : Tabs w) (q0 : (2500 : Int) < (s.size : Int)) (p5 : ∀ W, Tabs W → Calls Tryd.prog 6 #[] W (Ret (.bool true) W)) :
    Calls Tryd.prog 5 #[.string s, .agg #[.int .u32 a, .int .u16 b, .int .u32 c, .int .u16 d], .agg #[.int .u32 a2, .int .u16 b2, .int .u32 c2, .int .u16 d2]] w (Ret (.bool true) w) := by
  have P5 := hide p5; have TT := hide T0; have KK := hide (show Kinds w from And.left T0)
  clear p5 T0
  go_enter Tryd.func5, Tryd.ntmps5
  have d0 := Cells.new w #[.int .u32 a, .int .u16 b, .int .u32 c, .int .u16 d] 28
  replace d0 := Cells.below (fresh_below (w.alloc (.cells #[.int .u32 a, .int .u16 b, .int .u32 c, .int .u16 d] 28)) (.cells #[.int .u32 a2, .int .u16 b2, .int .u32 c2, .int .u16 d2] 28)) d0
  have d1 := Cells.new (w.alloc (.cells #[.int .u32 a, .int .u16 b, .int .u32 c, .int .u16 d] 28)) #[.int .u32 a2, .int .u16 b2, .int .u32 c2, .int .u16 d2] 28
  rw [World.size_alloc] at d1
  have l0 : Below w.heap.size w ((w.alloc (.cells #[.int .u32 a, .int .u16 b, .int .u32 c, .int .u16 d] 28)).alloc (.cells #[.int .u32 a2, .int .u16 b2, .int .u32 c2, .int .u16 d2] 28)) := bstep (fresh_below _ _) (fresh_below _ _)
  have B0 := hide l0; have D0 := hide d0; have D1 := hide d1
  clear l0 d0 d1
  go_wp2_with fail
  have l0 := B0.out; have d0 := D0.out; have d1 := D1.out
  clear B0 D0 D1
  generalize ((w.alloc (.cells #[.int .u32 a, .int .u16 b, .int .u32 c, .int .u16 d] 28)).alloc (.cells #[.int .u32 a2, .int .u16 b2, .int .u32 c2, .int .u16 d2] 28)) = w0 at *
  (with_reducible refine (P5.out _ (TT.out.below l0)).mono ?_)
  rintro e w1 ⟨rfl, l1⟩
  replace l1 := bstep l0 l1
  go_wp2_with fail
  go_ret
  exact ⟨rfl, l1⟩

set_option maxRecDepth 100000 in
set_option maxHeartbeats 4000000 in
theorem twice_no (s : ByteArray) (a b c d a2 b2 c2 d2 x0 x1 x2 x3 x4 x5 x6 x8 : Int) (x7 : Bool) (w : World) (T0 : Tabs w) (q0 : ¬ (2500 : Int) < (s.size : Int)) (p5 : ∀ W, Tabs W → Calls Tryd.prog 6 #[] W (Ret (.bool true) W)) (p0 : ∀ W, Kinds W → Calls Tryd.prog 7 #[.string s, .int .u8 2] W (Ret (.tuple #[.agg #[.int .u8 x0, .int .u32 x1, .int .u16 x2, .int .u32 x3, .int .u16 x4, .int .i64 x5, .int .u8 x6, .bool x7, .int .u8 x8], .bool false]) W)) :
    Calls Tryd.prog 5 #[.string s, .agg #[.int .u32 a, .int .u16 b, .int .u32 c, .int .u16 d], .agg #[.int .u32 a2, .int .u16 b2, .int .u32 c2, .int .u16 d2]] w (Ret (.bool true) w) := by
  have P5 := hide p5; have P0 := hide p0; have TT := hide T0; have KK := hide (show Kinds w from And.left T0)
  clear p5 p0 T0
  go_enter Tryd.func5, Tryd.ntmps5
  have d0 := Cells.new w #[.int .u32 a, .int .u16 b, .int .u32 c, .int .u16 d] 28
  replace d0 := Cells.below (fresh_below (w.alloc (.cells #[.int .u32 a, .int .u16 b, .int .u32 c, .int .u16 d] 28)) (.cells #[.int .u32 a2, .int .u16 b2, .int .u32 c2, .int .u16 d2] 28)) d0
  have d1 := Cells.new (w.alloc (.cells #[.int .u32 a, .int .u16 b, .int .u32 c, .int .u16 d] 28)) #[.int .u32 a2, .int .u16 b2, .int .u32 c2, .int .u16 d2] 28
  rw [World.size_alloc] at d1
  have l0 : Below w.heap.size w ((w.alloc (.cells #[.int .u32 a, .int .u16 b, .int .u32 c, .int .u16 d] 28)).alloc (.cells #[.int .u32 a2, .int .u16 b2, .int .u32 c2, .int .u16 d2] 28)) := bstep (fresh_below _ _) (fresh_below _ _)
  have B0 := hide l0; have D0 := hide d0; have D1 := hide d1
  clear l0 d0 d1
  go_wp2_with fail
  have l0 := B0.out; have d0 := D0.out; have d1 := D1.out
  clear B0 D0 D1
  generalize ((w.alloc (.cells #[.int .u32 a, .int .u16 b, .int .u32 c, .int .u16 d] 28)).alloc (.cells #[.int .u32 a2, .int .u16 b2, .int .u32 c2, .int .u16 d2] 28)) = w0 at *
  (with_reducible refine (P0.out _ (KK.out.below l0)).mono ?_)
  rintro e w1 ⟨rfl, l1⟩
  replace l1 := bstep l0 l1
  replace l1 := bstep l1 (fresh_below _ (.cells #[.int .u8 x0, .int .u32 x1, .int .u16 x2, .int .u32 x3, .int .u16 x4, .int .i64 x5, .int .u8 x6, .bool x7, .int .u8 x8] 33))
  have B1 := hide l1
  clear l1
  go_wp2_with fail
  have l1 := B1.out
  (with_reducible refine (P5.out _ (TT.out.below l1)).mono ?_)
  rintro e w2 ⟨rfl, l2⟩
  replace l2 := bstep l1 l2
  go_wp2_with fail
  go_ret
  exact ⟨rfl, l2⟩

set_option maxRecDepth 100000 in
set_option maxHeartbeats 4000000 in
theorem twice_yes (s t u v z : ByteArray) (a b c d a2 b2 c2 d2 x0 x1 x2 x3 x4 x5 x6 x8 : Int) (x7 : Bool) (w : World) (T0 : Tabs w) (q0 : ¬ (2500 : Int) < (s.size : Int)) (q1 : ¬ (u.size : Int) < 20) (q2 : ¬ (v.size : Int) < 20) (p5 : ∀ W, Tabs W → Calls Tryd.prog 6 #[] W (Ret (.bool true) W)) (p0 : ∀ W, Kinds W → Calls Tryd.prog 7 #[.string s, .int .u8 2] W (Ret (.tuple #[.agg #[.int .u8 x0, .int .u32 x1, .int .u16 x2, .int .u32 x3, .int .u16 x4, .int .i64 x5, .int .u8 x6, .bool x7, .int .u8 x8], .bool true]) W))
    (p1 : ∀ W, Kinds W → Calls Tryd.prog 8 #[.string s, .agg #[.int .u32 a, .int .u16 b, .int .u32 c, .int .u16 d]] W (Ret (.tuple #[.string t, .int .i64 0]) W)) (p2 : ∀ W, Kinds W → Calls Tryd.prog 8 #[.string t, .agg #[.int .u32 a2, .int .u16 b2, .int .u32 c2, .int .u16 d2]] W (Ret (.tuple #[.string u, .int .i64 0]) W)) (p3 : ∀ W, Kinds W → Calls Tryd.prog 8 #[.string s, .agg #[.int .u32 a2, .int .u16 b2, .int .u32 c2, .int .u16 d2]] W (Ret (.tuple #[.string v, .int .i64 0]) W)) (p6 : ∀ W, Kinds W → Calls Tryd.prog 11 #[.string u] W (Ret (.string z) W)) (p7 : ∀ W, Kinds W → Calls Tryd.prog 11 #[.string v] W (Ret (.string z) W)) :
    Calls Tryd.prog 5 #[.string s, .agg #[.int .u32 a, .int .u16 b, .int .u32 c, .int .u16 d], .agg #[.int .u32 a2, .int .u16 b2, .int .u32 c2, .int .u16 d2]] w (Ret (.bool true) w) := by
  have P5 := hide p5; have P0 := hide p0; have P1 := hide p1; have P2 := hide p2; have P3 := hide p3; have P6 := hide p6; have P7 := hide p7; have TT := hide T0; have KK := hide (show Kinds w from And.left T0)
  clear p5 p0 p1 p2 p3 p6 p7 T0
  go_enter Tryd.func5, Tryd.ntmps5
  have d0 := Cells.new w #[.int .u32 a, .int .u16 b, .int .u32 c, .int .u16 d] 28
  replace d0 := Cells.below (fresh_below (w.alloc (.cells #[.int .u32 a, .int .u16 b, .int .u32 c, .int .u16 d] 28)) (.cells #[.int .u32 a2, .int .u16 b2, .int .u32 c2, .int .u16 d2] 28)) d0
  have d1 := Cells.new (w.alloc (.cells #[.int .u32 a, .int .u16 b, .int .u32 c, .int .u16 d] 28)) #[.int .u32 a2, .int .u16 b2, .int .u32 c2, .int .u16 d2] 28
  rw [World.size_alloc] at d1
  have l0 : Below w.heap.size w ((w.alloc (.cells #[.int .u32 a, .int .u16 b, .int .u32 c, .int .u16 d] 28)).alloc (.cells #[.int .u32 a2, .int .u16 b2, .int .u32 c2, .int .u16 d2] 28)) := bstep (fresh_below _ _) (fresh_below _ _)
  have B0 := hide l0; have D0 := hide d0; have D1 := hide d1
  clear l0 d0 d1
  go_wp2_with fail
  have l0 := B0.out; have d0 := D0.out; have d1 := D1.out
  clear B0 D0 D1
  generalize ((w.alloc (.cells #[.int .u32 a, .int .u16 b, .int .u32 c, .int .u16 d] 28)).alloc (.cells #[.int .u32 a2, .int .u16 b2, .int .u32 c2, .int .u16 d2] 28)) = w0 at *
  (with_reducible refine (P0.out _ (KK.out.below l0)).mono ?_)
  rintro e w1 ⟨rfl, l1⟩
  replace d0 := Cells.below l1 d0
  replace d1 := Cells.below l1 d1
  replace l1 := bstep l0 l1
  replace d0 := Cells.alloc d0 (.cells #[.int .u8 x0, .int .u32 x1, .int .u16 x2, .int .u32 x3, .int .u16 x4, .int .i64 x5, .int .u8 x6, .bool x7, .int .u8 x8] 33)
  replace d1 := Cells.alloc d1 (.cells #[.int .u8 x0, .int .u32 x1, .int .u16 x2, .int .u32 x3, .int .u16 x4, .int .i64 x5, .int .u8 x6, .bool x7, .int .u8 x8] 33)
  replace l1 := bstep l1 (fresh_below _ (.cells #[.int .u8 x0, .int .u32 x1, .int .u16 x2, .int .u32 x3, .int .u16 x4, .int .i64 x5, .int .u8 x6, .bool x7, .int .u8 x8] 33))
  have xd0_0 : ((w1.alloc (.cells #[.int .u8 x0, .int .u32 x1, .int .u16 x2, .int .u32 x3, .int .u16 x4, .int .i64 x5, .int .u8 x6, .bool x7, .int .u8 x8] 33))).cell? ⟨w.heap.size, 0, none⟩ = some (.int .u32 a) := d0.at_ 0
  have xd0_1 : ((w1.alloc (.cells #[.int .u8 x0, .int .u32 x1, .int .u16 x2, .int .u32 x3, .int .u16 x4, .int .i64 x5, .int .u8 x6, .bool x7, .int .u8 x8] 33))).cell? ⟨w.heap.size, 1, none⟩ = some (.int .u16 b) := d0.at_ 1
  have xd0_2 : ((w1.alloc (.cells #[.int .u8 x0, .int .u32 x1, .int .u16 x2, .int .u32 x3, .int .u16 x4, .int .i64 x5, .int .u8 x6, .bool x7, .int .u8 x8] 33))).cell? ⟨w.heap.size, 2, none⟩ = some (.int .u32 c) := d0.at_ 2
  have xd0_3 : ((w1.alloc (.cells #[.int .u8 x0, .int .u32 x1, .int .u16 x2, .int .u32 x3, .int .u16 x4, .int .i64 x5, .int .u8 x6, .bool x7, .int .u8 x8] 33))).cell? ⟨w.heap.size, 3, none⟩ = some (.int .u16 d) := d0.at_ 3
  have D0 := hide d0; have D1 := hide d1; have B1 := hide l1
  clear d0 d1 l1
  go_wp2_with fail
  have d0 := D0.out; have d1 := D1.out; have l1 := B1.out
  clear D0 D1 B1 xd0_0 xd0_1 xd0_2 xd0_3
  (with_reducible refine (P1.out _ (KK.out.below l1)).mono ?_)
  rintro e w2 ⟨rfl, l2⟩
  replace d1 := Cells.below l2 d1
  replace l2 := bstep l1 l2
  have xd1_0 : w2.cell? ⟨w.heap.size + 1, 0, none⟩ = some (.int .u32 a2) := d1.at_ 0
  have xd1_1 : w2.cell? ⟨w.heap.size + 1, 1, none⟩ = some (.int .u16 b2) := d1.at_ 1
  have xd1_2 : w2.cell? ⟨w.heap.size + 1, 2, none⟩ = some (.int .u32 c2) := d1.at_ 2
  have xd1_3 : w2.cell? ⟨w.heap.size + 1, 3, none⟩ = some (.int .u16 d2) := d1.at_ 3
  go_wp2_with fail
  clear xd1_0 xd1_1 xd1_2 xd1_3
  (with_reducible refine (P2.out _ (KK.out.below l2)).mono ?_)
  rintro e w3 ⟨rfl, l3⟩
  replace d1 := Cells.below l3 d1
  replace l3 := bstep l2 l3
  have xd1_0 : w3.cell? ⟨w.heap.size + 1, 0, none⟩ = some (.int .u32 a2) := d1.at_ 0
  have xd1_1 : w3.cell? ⟨w.heap.size + 1, 1, none⟩ = some (.int .u16 b2) := d1.at_ 1
  have xd1_2 : w3.cell? ⟨w.heap.size + 1, 2, none⟩ = some (.int .u32 c2) := d1.at_ 2
  have xd1_3 : w3.cell? ⟨w.heap.size + 1, 3, none⟩ = some (.int .u16 d2) := d1.at_ 3
  go_wp2_with fail
  clear xd1_0 xd1_1 xd1_2 xd1_3
  (with_reducible refine (P3.out _ (KK.out.below l3)).mono ?_)
  rintro e w4 ⟨rfl, l4⟩
  replace l4 := bstep l3 l4
  go_wp2_with fail
  (with_reducible refine (P6.out _ (KK.out.below l4)).mono ?_)
  rintro e w5 ⟨rfl, l5⟩
  replace l5 := bstep l4 l5
  go_wp2_with fail
  (with_reducible refine (P7.out _ (KK.out.below l5)).mono ?_)
  rintro e w6 ⟨rfl, l6⟩
  replace l6 := bstep l5 l6
  go_wp2_with fail
  (with_reducible refine (P5.out _ (TT.out.below l6)).mono ?_)
  rintro e w7 ⟨rfl, l7⟩
  replace l7 := bstep l6 l7
  go_wp2_with fail
  go_ret
  exact ⟨rfl, l7⟩

theorem RewriteTwice_walk (s : ByteArray) (a b c d a2 b2 c2 d2 : Int) (w : World) (T0 : Tabs w) (hs : s.size ≤ 140737488351232) (ha : 0 ≤ a ∧ a ≤ 4294967295) (hb : 0 ≤ b ∧ b ≤ 65535) (hc : 0 ≤ c ∧ c ≤ 4294967295) (hd : 0 ≤ d ∧ d ≤ 65535) (ha2 : 0 ≤ a2 ∧ a2 ≤ 4294967295) (hb2 : 0 ≤ b2 ∧ b2 ≤ 65535) (hc2 : 0 ≤ c2 ∧ c2 ≤ 4294967295) (hd2 : 0 ≤ d2 ∧ d2 ≤ 65535) :
    Calls Tryd.prog 5 #[.string s, .agg #[.int .u32 a, .int .u16 b, .int .u32 c, .int .u16 d], .agg #[.int .u32 a2, .int .u16 b2, .int .u32 c2, .int .u16 d2]] w (Ret (.bool true) w) := by
  have p5 := fun W T => turned W T
  by_cases hl : (2500 : Int) < (s.size : Int)
  · exact twice_long s a b c d a2 b2 c2 d2 w T0 hl p5
  have p0 := fun W K => taken_walk s 2 W K hs
  unfold Seen.cells at p0
  by_cases ht : seenWhy s = 0 ∧ 2 < (seenOf s).l ∧ 20 ≤ s.size
  · rw [decide_eq_true ht] at p0
    obtain ⟨e1, e2, e3, e4, e5⟩ := rw_twice ht.1 ht.2.1 ha hb hc hd ha2 hb2 hc2 hd2
    obtain ⟨_, f1, f2, _, z1, _⟩ := rw_seen ht.1 (by omega) ha hb hc hd _ rfl
    obtain ⟨_, _, _, _, z3, _⟩ := rw_seen f1 (by rw [f2, seenTo_l]; omega) ha2 hb2 hc2 hd2 _ rfl
    obtain ⟨e6, _, _, _, z2, _⟩ := rw_seen ht.1 (by omega) ha2 hb2 hc2 hd2 _ rfl
    have p1 := fun W K => rw_Apply a b c d s W K ha hb hc hd hs
    have p2 := fun W K => rw_Apply a2 b2 c2 d2 (rwOut s a b c d) W K ha2 hb2 hc2 hd2 (by omega)
    have p3 := fun W K => rw_Apply a2 b2 c2 d2 s W K ha2 hb2 hc2 hd2 hs
    have p6 := fun W K => plain_walk (rwOut (rwOut s a b c d) a2 b2 c2 d2) W K (by omega) (by omega)
    have p7 := fun W K => plain_walk (rwOut s a2 b2 c2 d2) W K (by omega) (by omega)
    rw [e1] at p1 p3
    rw [e2] at p2
    rw [e5] at p6
    exact twice_yes s _ _ _ _ a b c d a2 b2 c2 d2 _ _ _ _ _ _ _ _ _ w T0 hl (by omega) (by omega) p5 p0 p1 p2 p3 p6 p7
  · rw [decide_eq_false ht] at p0
    exact twice_no s a b c d a2 b2 c2 d2 _ _ _ _ _ _ _ _ _ w T0 hl p5 p0
end Go.Proofs.YtpidgmamollmgaaDoor
end

section
/- How an argument that is a struct or an array (of whatever depth) of one-cell leaves reads: each cell by its place. No program. -/
set_option linter.unusedVariables false
namespace Go.Proofs.YtpidgmamollmgaaDoor
open Go.RowKit Go.ChangeShapes Go.WideShapes

/-- the type of the leaf at cell i of a value of type t -/
def leafAt (P : Program) : Nat → TypeId → Nat → Option TypeId
  | 0, _, _ => none
  | n + 1, t, i =>
    match P.underlying t with
    | some (.struct fs) =>
      match fs.toList.find? (fun f => decide (f.offset ≤ i) && decide (i < f.offset + P.cellsOf f.type)) with
      | some f => leafAt P n f.type (i - f.offset)
      | none => none
    | some (.array m e) => if i / P.cellsOf e < m then leafAt P n e (i % P.cellsOf e) else none
    | some (.int _) | some .bool | some .string | some (.slice _) => if i = 0 then some t else none
    | _ => none

section
variable {H : Type} {enc : TypeId × Value → H} {P : Program} {w : World} {base : Nat} {spare : Nat → Bool} {held : Bool}

/-- the cell at i, and that it reads by itself; D: what the whole weighs -/
def LeafIs (enc : TypeId × Value → H) (P : Program) (w : World) (base : Nat) (spare : Nat → Bool) (held : Bool) (D : List Nat) (cs : List Value) (i : Nat) (u : TypeId) : Prop :=
  ∃ v x n, cs[i]? = some v ∧ DataW.trod enc P w base spare held n u [v] = some x ∧ ∀ m ∈ x.1.weights P u, m ∈ D

theorem slice_at {cs : List Value} {o c j : Nat} {v : Value} (h : ((cs.drop o).take c)[j]? = some v) : cs[o + j]? = some v := by
  have hj : j < c := by
    have := (List.getElem?_eq_some_iff.1 h).1
    simp at this; omega
  rw [List.getElem?_take_of_lt hj, List.getElem?_drop] at h
  exact h
theorem weights_all {e : TypeId} : ∀ {ds : List (DataW H)} {j : Nat} {d : DataW H}, ds[j]? = some d → ∀ m ∈ d.weights P e, m ∈ DataW.weightsAll P e ds
  | d0 :: ds, 0, d, hd, m, hm => by
    simp only [List.getElem?_cons_zero, Option.some.injEq] at hd
    subst hd
    simp only [DataW.weightsAll, List.mem_append]; exact .inl hm
  | d0 :: ds, j + 1, d, hd, m, hm => by
    simp only [DataW.weightsAll, List.mem_append]
    exact .inr (weights_all (j := j) (by simpa using hd) m hm)

theorem leafAt_of : ∀ {n : Nat} {t : TypeId} {i : Nat} {u : TypeId} (_ : leafAt P n t i = some u) {fuel : Nat} {cs : List Value} {x : DataW H × List MemPlace},
    DataW.trod enc P w base spare held fuel t cs = some x → LeafIs enc P w base spare held (x.1.weights P t) cs i u
  | 0, _, _, _, h, _, _, _, _ => by cases h
  | n + 1, t, i, u, h, fuel, cs, x, hx => by
    unfold leafAt at h
    split at h
    · rename_i fs hfs
      split at h
      · rename_i f hf
        obtain ⟨xs, m, _, hxx, hlen, hxl, hg⟩ := DataW.trod_struct hfs hx
        have hp := List.find?_some hf
        simp only [Bool.and_eq_true, decide_eq_true_eq] at hp
        obtain ⟨j, hj⟩ := List.mem_iff_getElem?.1 (List.mem_of_find?_eq_some hf)
        have hjl : j < fs.size := by have := (List.getElem?_eq_some_iff.1 hj).1; simpa using this
        have h1 := hg j f (by rw [← Array.getElem?_toList]; exact hj)
        rw [List.getElem?_eq_getElem (by omega)] at h1
        obtain ⟨v, y, k, hv, hy, hw⟩ := leafAt_of h h1
        refine ⟨v, y, k, ?_, hy, fun q hq => ?_⟩
        · have := slice_at hv
          rwa [show f.offset + (i - f.offset) = i from by omega] at this
        · have h2 := hw q hq
          rw [hxx]
          simp only [DataW.weights, hfs]
          exact DataW.weights_mem_each (ts := fs.toList.map (·.type)) (ds := xs.map (·.1)) (j := j) (by rw [List.getElem?_map, hj]; rfl) (by rw [List.getElem?_map, List.getElem?_eq_getElem (by omega)]; rfl) q h2
      · cases h
    · rename_i m e he
      split at h
      · rename_i hm
        obtain ⟨xs, k, _, hxx, hlen, hxl, hg⟩ := DataW.trod_array he hx
        have h1 := hg (i / P.cellsOf e) hm
        rw [List.getElem?_eq_getElem (by omega)] at h1
        obtain ⟨v, y, k, hv, hy, hw⟩ := leafAt_of h h1
        refine ⟨v, y, k, ?_, hy, fun q hq => ?_⟩
        · have := slice_at hv
          rwa [Nat.mul_comm, Nat.div_add_mod] at this
        · have h2 := hw q hq
          rw [hxx]
          simp only [DataW.weights, he]
          exact weights_all (ds := xs.map (·.1)) (j := i / P.cellsOf e) (by rw [List.getElem?_map, List.getElem?_eq_getElem (by omega)]; rfl) q h2
      · cases h
    · split at h
      · rename_i hi
        subst hi
        injection h with h
        subst h
        obtain ⟨k, hk, _⟩ := DataW.trod_int (by assumption) hx
        exact ⟨_, x, fuel, by rw [hk]; rfl, by rw [← hk]; exact hx, fun q hq => hq⟩
      · cases h
    · split at h
      · rename_i hi
        subst hi
        injection h with h
        subst h
        obtain ⟨k, hk, _⟩ := DataW.trod_bool (by assumption) hx
        exact ⟨_, x, fuel, by rw [hk]; rfl, by rw [← hk]; exact hx, fun q hq => hq⟩
      · cases h
    · split at h
      · rename_i hi
        subst hi
        injection h with h
        subst h
        obtain ⟨k, hk, _⟩ := DataW.trod_string (by assumption) hx
        exact ⟨_, x, fuel, by rw [hk]; rfl, by rw [← hk]; exact hx, fun q hq => hq⟩
      · cases h
    · split at h
      · rename_i hi
        subst hi
        injection h with h
        subst h
        rcases DataW.trod_slice (by assumption) hx with ⟨hk, _⟩ | ⟨_, _, _, _, _, _, _, hk, _⟩
        · exact ⟨_, x, fuel, by rw [hk]; rfl, by rw [← hk]; exact hx, fun q hq => hq⟩
        · exact ⟨_, x, fuel, by rw [hk]; rfl, by rw [← hk]; exact hx, fun q hq => hq⟩
      · cases h
    · cases h

variable {D : List Nat} {cs : List Value} {i : Nat} {u : TypeId}
theorem leaf_int {k : IntKind} (h : LeafIs enc P w base spare held D cs i u) (hu : P.underlying u = some (.int k)) : ∃ n, cs[i]? = some (.int k n) ∧ (Lit.int k n).wf = true := by
  obtain ⟨v, x, n, hv, hx, _⟩ := h
  obtain ⟨m, hm, _, hw⟩ := DataW.trod_int hu hx
  exact ⟨m, by rw [hv]; injection hm with hm; rw [hm], hw⟩
theorem leaf_bool (h : LeafIs enc P w base spare held D cs i u) (hu : P.underlying u = some .bool) : ∃ b, cs[i]? = some (.bool b) := by
  obtain ⟨v, x, n, hv, hx, _⟩ := h
  obtain ⟨m, hm, _⟩ := DataW.trod_bool hu hx
  exact ⟨m, by rw [hv]; injection hm with hm; rw [hm]⟩
theorem leaf_string (h : LeafIs enc P w base spare held D cs i u) (hu : P.underlying u = some .string) (hD : ∀ m ∈ D, m ≤ reachBytes) : ∃ s, cs[i]? = some (.string s) ∧ s.size ≤ 140737488351232 := by
  obtain ⟨v, x, n, hv, hx, hw⟩ := h
  obtain ⟨m, hm, hx', _⟩ := DataW.trod_string hu hx
  refine ⟨m, by rw [hv]; injection hm with hm; rw [hm], ?_⟩
  exact hD _ (hw m.data.toList.length (by rw [hx']; simp [DataW.weights]))
theorem okWide_array {r : Reach} {b n : Nat} {t e : TypeId} {v : Value} (ht : P.underlying t = some (.array n e)) (h : Value.okWide P w r b t v) : ∃ cs, v = .agg cs ∧ cs.size = P.cellsOf t := by
  simp only [Value.okWide, ht] at h
  obtain ⟨cs, h1, h2, _⟩ := h
  exact ⟨cs, h1, h2⟩
theorem sized_at {ts : List TypeId} {ds : List (DataW H)} (h : (DataW.weightsEach P ts ds).all (· ≤ reachBytes) = true) {j : Nat} {t : TypeId} {d : DataW H} (ht : ts[j]? = some t) (hd : ds[j]? = some d) : ∀ m ∈ d.weights P t, m ≤ reachBytes := fun m hm => by
  have := List.all_eq_true.1 h _ (DataW.weights_mem_each ht hd m hm)
  simpa using this
end

theorem arr_ext {cs ds : Array Value} (hz : cs.size = ds.size) (h : ∀ j, j < ds.size → cs.toList[j]? = ds[j]?) : cs = ds := by
  refine Array.ext hz (fun j h1 h2 => ?_)
  have := h j h2
  rw [Array.getElem?_toList, Array.getElem?_eq_getElem h1, Array.getElem?_eq_getElem h2] at this
  exact Option.some.inj this
end Go.Proofs.YtpidgmamollmgaaDoor
end
