/- The kinds of messages, as the program lays them: what a look into them gives; what the program's Query and Error tell. -/
import Derived.Test.YthmedjlecikbiaaDoorIcmp
import Derived.Test.YthmedjlecikbiaaDoorRows
import Derived.Maps.OwnOps
import Derived.Maps.OwnSet
set_option linter.unusedVariables false
namespace Go.Proofs.YthmedjlecikbiaaDoor
open Go.RowKit Go.Maps
attribute [local go_sem] Oper.semAt_some

/-- what a type is: 1: it asks; 2: it is told; 3: an error; 0: none of these -/
def kindOf (t : Int) : Int := if t = 8 ∨ t = 13 then 1 else if t = 0 ∨ t = 14 then 2 else if t = 3 ∨ t = 11 ∨ t = 12 then 3 else 0
def Kinds (w : World) : Prop :=
  ∃ b n, w.cell? ⟨0, 0, none⟩ = some (.map (some b)) ∧ w.ownsMap (H := Unit) Tryd.prog 5 (plainElem Tryd.prog 3) b n Rows.laid_porter_icmp_kinds
theorem Kinds.below {w w' : World} (h : Kinds w) (k : Below w.heap.size w w') : Kinds w' := by
  obtain ⟨b, n, hc, es, clock, hb, hF⟩ := h
  exact ⟨b, n, cellAt k hc, es, clock, (k.block b (Array.getElem?_eq_some_iff.1 hb).1).trans hb, hF⟩
def kindsB (t : Nat) : Bool := match (Rows.laid_porter_icmp_kinds (H := Unit)).atKey (.int .u8 (t : Int)) (.lit (.int .i64 0)) with | .lit (.int .i64 c) => c == kindOf t | _ => false
theorem kinds_b : (List.range 256).all kindsB = true := by kernel_rfl
theorem kinds_at {t : Nat} (h : t < 256) : (Rows.laid_porter_icmp_kinds (H := Unit)).atKey (.int .u8 (t : Int)) (.lit (.int .i64 0)) = .lit (.int .i64 (kindOf t)) := by
  have hb := List.all_eq_true.1 kinds_b t (List.mem_range.2 h)
  unfold kindsB at hb
  split at hb
  · rename_i c e
    rw [e, beq_iff_eq.1 hb]
  · cases hb
theorem Kinds.look {w : World} (h : Kinds w) : ∃ b, w.cell? ⟨0, 0, none⟩ = some (.map (some b)) ∧
    ∀ t : Int, 0 ≤ t ∧ t ≤ 255 → (Instr.lookup 65 (.map (some b)) (.int .u8 t) false).run Tryd.prog w = .ok (.int .i64 (kindOf t)) w := by
  obtain ⟨b, n, hc, hown⟩ := h
  refine ⟨b, hc, fun t ht => ?_⟩
  obtain ⟨c, hrun, hat, hwc⟩ := hown.lookup_int (t := 65) (int_keyed Tryd.underlying5) Tryd.underlying65 Tryd.underlying3 (by kernel_rfl) (key := .int .u8 t) (keyOf_int_mk Tryd.underlying5 (by go_wf))
  have h2 := kinds_at (t := t.toNat) (by omega)
  simp only [Int.toNat_of_nonneg ht.1] at h2
  rw [h2] at hat
  generalize kindOf t = z at hat ⊢
  have hz : z = c := by cases hat; rfl
  rw [hz]; exact hrun
end Go.Proofs.YthmedjlecikbiaaDoor
