/- What the rows of SumsSpoilt and SumsHold list: a heap that meets it. -/
import Derived.Test.YtcghhnehmddoeaaDoorRows
import Derived.ProofKit
import Derived.LaidMore
import Derived.OpenShut
import Derived.Stop.Joined
import Derived.MakeChecks
import Derived.Lay
set_option linter.unusedVariables false
namespace Go.Proofs.YtcghhnehmddoeaaDoor
open Go.ChangeShapes Go.WideShapes Go.ChangeAt Go.RowKit

def laid02 : List (String × DataW Unit) := [("unicode/utf8.acceptRanges", Rows.laid_unicode_utf8_acceptRanges), ("unicode/utf8.first", Rows.laid_unicode_utf8_first)]
theorem of_laid02 {W : World} (h : laidMetH Tryd.prog laid02 W) : True := trivial
noncomputable def start02 (os : Os) : World := World.laidAll Tryd.prog os laid02
theorem start02_os (os : Os) : (start02 os).os = os := World.laidAll_os _ _ _
set_option maxRecDepth 100000 in
theorem met02 (os : Os) (args : Array Value) : laidMetH Tryd.prog laid02 ((start02 os).forCall (fun _ _ => 0) ⟨#[], args, []⟩).memory := by
  rw [MakeChecks.laidMetH_plain _ _ _ (by kernel_rfl)]
  exact laidMet_laidAll _ (by kernel_rfl) (by kernel_rfl)
end Go.Proofs.YtcghhnehmddoeaaDoor
