/- Several texts of this claim, one behind the other. -/
import Derived.Test.YtedfdphapcanoaaGreatDoorM0
import Derived.Laws.Strings
import Derived.Test.YtedfdphapcanoaaGreatDoorM1

section
/- How texts are compared in a walk. No program. -/
set_option linter.unusedVariables false
namespace Go.Proofs.YtedfdphapcanoaaGreatDoor
open Go.RowKit

theorem str_full {s : ByteArray} (h : s.size ≠ 0) : s.toList.isEmpty = false := by
  rw [ByteArray.toList_eq]
  cases hl : s.data.toList with
  | nil => exact absurd (show s.size = 0 from by rw [← L_length]; unfold L; rw [hl]; rfl) h
  | cons _ _ => rfl
theorem toList_inj {s t : ByteArray} (h : s.toList = t.toList) : s = t := by
  rw [ByteArray.toList_eq, ByteArray.toList_eq] at h
  exact L_inj h
theorem str_ne {s t : ByteArray} (h : s ≠ t) : (s.toList == t.toList) = false := by
  rw [beq_eq_false_iff_ne]; exact fun e => h (toList_inj e)
theorem str_eq {s t : ByteArray} (h : s = t) : (s.toList == t.toList) = true := by
  rw [h]; exact beq_self_eq_true _
theorem str_toList (s : ByteArray) : s.toList = L s := ByteArray.toList_eq s
end Go.Proofs.YtedfdphapcanoaaGreatDoor
end

section
/- Blocks that are known whole, carried over new blocks and calls. No program. -/
set_option linter.unusedVariables false
namespace Go.Proofs.YtedfdphapcanoaaGreatDoor
open Go.RowKit

theorem Cells.up {a c d : World} {b : Nat} {cs : Array Value} {T : TypeId} (h : Cells a b cs T) (k : Below a.heap.size a c) (j : Below c.heap.size c d) : Cells d b cs T := Cells.below j (Cells.below k h)
end Go.Proofs.YtedfdphapcanoaaGreatDoor
end
