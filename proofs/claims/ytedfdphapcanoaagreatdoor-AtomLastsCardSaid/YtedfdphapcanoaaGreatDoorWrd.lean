/- tuples.words, as the program lays it: whether a protocol is there; tuples.May. -/
import Derived.Test.YtedfdphapcanoaaGreatDoorProg
import Derived.Test.YtedfdphapcanoaaGreatDoorRows
import Derived.Test.YtedfdphapcanoaaGreatDoorHeap2
import Derived.Test.YtedfdphapcanoaaGreatDoorRange
import Derived.Deep.Upon
import Derived.Deep.CutRange
import Derived.Maps.OwnOps
import Derived.Maps.OwnSet
import Derived.Maps.StringElems
set_option linter.unusedVariables false
set_option linter.unusedSimpArgs false
namespace Go.Proofs.YtedfdphapcanoaaGreatDoor
open Go.RowKit Go.Maps
attribute [local go_sem] Oper.semAt_some

/-- the protocols' words, as they lie -/
def Wds (w : World) : Prop :=
  ∃ b n, w.cell? ⟨1, 0, none⟩ = some (.map (some b)) ∧ w.ownsMap (H := Unit) Tryz.prog 5 (plainElem Tryz.prog 9) b n Rows.laid_porter_tuples_words
theorem Wds.below {w w' : World} (h : Wds w) (k : Below w.heap.size w w') : Wds w' := by
  obtain ⟨b, n, hc, es, clock, hb, hF⟩ := h
  exact ⟨b, n, cellAt k hc, es, clock, (k.block b (Array.getElem?_eq_some_iff.1 hb).1).trans hb, hF⟩
/-- one of the three -/
def isProto (p : Int) : Bool := p == 1 || (p == 6 || p == 17)
def wordB (t : Nat) : Bool := Maps.has (Rows.laid_porter_tuples_words (H := Unit)) (.int .u8 (t : Int)) == isProto t
theorem words_b : (List.range 256).all wordB = true := by kernel_rfl
/-- what a look into the words gives, in the world at hand and in all that follow -/
theorem Wds.look {w : World} (h : Wds w) : ∃ b, ∀ W, Below w.heap.size w W → W.cell? ⟨1, 0, none⟩ = some (.map (some b)) ∧
    ∀ t : Int, 0 ≤ t ∧ t ≤ 255 → ∃ v, (Instr.lookup 346 (.map (some b)) (.int .u8 t) true).run Tryz.prog W = .ok (.tuple #[v, .bool (isProto t)]) W := by
  obtain ⟨b, n, hc, es, clock, hb, hF⟩ := h
  refine ⟨b, fun W k => ⟨cellAt k hc, fun t ht => ?_⟩⟩
  have hown : W.ownsMap (H := Unit) Tryz.prog 5 (plainElem Tryz.prog 9) b n Rows.laid_porter_tuples_words := ⟨es, clock, (k.block b (Array.getElem?_eq_some_iff.1 hb).1).trans hb, hF⟩
  obtain ⟨v, ps, hrun, _⟩ := hown.look_ok (t := 346) (e := 9) (int_keyed Tryz.underlying5) Tryz.underlying346 (z := .string { data := #[] }) (by kernel_rfl) (zd := .lit (.string [])) (zp := []) (by kernel_rfl) (key := .int .u8 t) (keyOf_int_mk Tryz.underlying5 (by go_wf))
  have h1 := List.all_eq_true.1 words_b t.toNat (List.mem_range.2 (by omega))
  unfold wordB at h1
  rw [beq_iff_eq, Int.toNat_of_nonneg ht.1] at h1
  rw [h1] at hrun
  exact ⟨v, hrun⟩
/-- may a tuple be? -/
def tupMay (p b d : Int) : Bool := isProto p && (p != 1 || (b == 0 || d == 0))
set_option maxHeartbeats 2000000 in
set_option maxRecDepth 100000 in
theorem tu_May (w : World) (p a b c d : Int) (hW : Wds w) (hp : 0 ≤ p ∧ p ≤ 255) : Calls Tryz.prog 152 #[.agg #[.int .u8 p, .int .u32 a, .int .u16 b, .int .u32 c, .int .u16 d]] w (Ret (.bool (tupMay p b d)) w) := by
  obtain ⟨bm, hl⟩ := hW.look
  have HL := hide hl
  clear hW hl
  unfold tupMay
  obtain ⟨x1, q1⟩ : ∃ x1, isProto p = x1 := ⟨_, rfl⟩
  obtain ⟨x2, q2⟩ : ∃ x2, (p != 1) = x2 := ⟨_, rfl⟩
  obtain ⟨x3, q3⟩ : ∃ x3, (b == 0) = x3 := ⟨_, rfl⟩
  obtain ⟨x4, q4⟩ : ∃ x4, (d == 0) = x4 := ⟨_, rfl⟩
  rw [q1, q2, q3, q4]
  have Q1 := hide q1; have HP := hide hp
  clear q1 hp
  go_enter Tryz.func152, Tryz.ntmps152
  have d0 := Cells.new w #[.int .u8 p, .int .u32 a, .int .u16 b, .int .u32 c, .int .u16 d] 69
  have l0 : Below w.heap.size w (w.alloc (.cells #[.int .u8 p, .int .u32 a, .int .u16 b, .int .u32 c, .int .u16 d] 69)) := (fresh_below _ _)
  have L0 := hide l0; have D0 := hide d0
  clear l0 d0
  go_upto_region 1 with fail
  have l0 := L0.out; have d0 := D0.out
  clear L0 D0
  generalize (w.alloc (.cells #[.int .u8 p, .int .u32 a, .int .u16 b, .int .u32 c, .int .u16 d] 69)) = w1 at *
  have qd0_0 : ∀ W', Below w1.heap.size w1 W' → World.cell? W' ⟨w.heap.size, 0, none⟩ = some (.int .u8 p) := fun W' h => Cells.at_ (Cells.below h d0) 0
  have qd0_1 : ∀ W', Below w1.heap.size w1 W' → World.cell? W' ⟨w.heap.size, 1, none⟩ = some (.int .u32 a) := fun W' h => Cells.at_ (Cells.below h d0) 1
  have qd0_2 : ∀ W', Below w1.heap.size w1 W' → World.cell? W' ⟨w.heap.size, 2, none⟩ = some (.int .u16 b) := fun W' h => Cells.at_ (Cells.below h d0) 2
  have qd0_3 : ∀ W', Below w1.heap.size w1 W' → World.cell? W' ⟨w.heap.size, 3, none⟩ = some (.int .u32 c) := fun W' h => Cells.at_ (Cells.below h d0) 3
  have qd0_4 : ∀ W', Below w1.heap.size w1 W' → World.cell? W' ⟨w.heap.size, 4, none⟩ = some (.int .u16 d) := fun W' h => Cells.at_ (Cells.below h d0) 4
  have bb : Below w1.heap.size w1 w1 := Below.refl _ _
  have L0 := hide l0; have D0 := hide d0
  clear l0 d0
  obtain ⟨h1, h2⟩ := HL.out w1 L0.out
  obtain ⟨v, h3⟩ := h2 p HP.out
  rw [Q1.out] at h3
  clear h2
  cases x1
  · go_wp2_with fail
    go_ret
    exact ⟨rfl, L0.out⟩
  · cases x2
    · cases x3
      · go_wp2_with fail
        go_ret
        exact ⟨rfl, L0.out⟩
      · go_wp2_with fail
        go_ret
        exact ⟨rfl, L0.out⟩
    · go_wp2_with fail
      go_ret
      exact ⟨rfl, L0.out⟩
end Go.Proofs.YtedfdphapcanoaaGreatDoor
