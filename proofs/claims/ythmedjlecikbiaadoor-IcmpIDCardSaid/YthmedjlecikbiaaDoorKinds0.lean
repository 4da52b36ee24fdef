/- The kinds of messages, out of what the row lists; the heap that the program's own door leaves meets it. -/
import Derived.Test.YthmedjlecikbiaaDoorKinds
import Derived.Test.YthmedjlecikbiaaDoorRows
import Derived.ProofKit
import Derived.LaidMore
import Derived.OpenShut
import Derived.Stop.Joined
import Derived.MakeChecks
set_option linter.unusedVariables false
namespace Go.Proofs.YthmedjlecikbiaaDoor
open Go.ChangeShapes Go.WideShapes Go.ChangeAt Go.WideMaps Go.WideElems Go.RowKit

def laidKinds : List (String × DataW Unit) := [("porter/icmp.kinds", Rows.laid_porter_icmp_kinds)]
theorem gKinds : Tryd.prog.globalNamed "porter/icmp.kinds" = some 0 := by kernel_rfl
theorem tKinds : (Tryd.prog.globals[0]?).map (·.type) = some 65 := by kernel_rfl
set_option maxRecDepth 100000 in
theorem kinds_of_laid {W : World} (h : laidMetH Tryd.prog laidKinds W) : Kinds W := by
  rw [MakeChecks.laidMetH_plain _ _ _ (by kernel_rfl)] at h
  obtain ⟨ps, ⟨g0, t0, cs0, f0, p0, q0, hg0, ht0, hv0, hd0, _, _⟩, _, _⟩ := h
  obtain rfl := Option.some.inj (gKinds.symm.trans hg0)
  obtain rfl := Option.some.inj (tKinds.symm.trans ht0)
  rcases open_map Tryd.underlying65 hd0 with ⟨_, hx⟩ | ⟨bm, es, clock, m, rfl, hcs, hb, _, F, hx⟩
  · simp [Rows.laid_porter_icmp_kinds] at hx
  simp only [Prod.mk.injEq] at hx
  have hcell : W.cell? ⟨0, 0, none⟩ = some (.map (some bm)) := by
    have := World.var?_cell hg0 hv0 0
    rw [Array.eq_one_of_toList hcs] at this
    simpa using this
  have hown := World.ownsMap_of_fit (R := plainElem Tryd.prog 3) hb F (fun x _ z hz => elemAt_plainElem_int Tryd.underlying3 hz)
  rw [← hx.1] at hown
  exact ⟨bm, _, hcell, hown⟩
theorem kinds_met (os : Os) (args : Array Value) : laidMetH Tryd.prog laidKinds ((World.doorLaid Tryd.prog 400 os).forCall (fun _ _ => 0) ⟨#[], args, []⟩).memory :=
  laidMetH_of_parts3 (fuel := 8) (laidMet_of_run' 8 (by kernel_rfl) (by kernel_rfl)) (by kernel_rfl) (by kernel_rfl)
end Go.Proofs.YthmedjlecikbiaaDoor
