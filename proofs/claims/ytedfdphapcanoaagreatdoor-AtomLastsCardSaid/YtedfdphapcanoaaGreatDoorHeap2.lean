/- Blocks that are known whole, carried over new blocks and calls. No program. -/
import Derived.Test.YtedfdphapcanoaaGreatDoorHeap
import Derived.Test.YtedfdphapcanoaaGreatDoorStr
set_option linter.unusedVariables false
namespace Go.Proofs.YtedfdphapcanoaaGreatDoor
open Go.RowKit

theorem Cells.up {a c d : World} {b : Nat} {cs : Array Value} {T : TypeId} (h : Cells a b cs T) (k : Below a.heap.size a c) (j : Below c.heap.size c d) : Cells d b cs T := Cells.below j (Cells.below k h)
end Go.Proofs.YtedfdphapcanoaaGreatDoor
