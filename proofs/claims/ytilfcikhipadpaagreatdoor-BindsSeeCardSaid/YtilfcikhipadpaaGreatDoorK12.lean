/- Several texts of this claim, one behind the other. -/
import Derived.Test.YtilfcikhipadpaaGreatDoorK11
import Derived.Test.YtilfcikhipadpaaGreatDoorK10

section
/- Blocks that are known whole, carried over new blocks and calls. No program. -/
set_option linter.unusedVariables false
namespace Go.Proofs.YtilfcikhipadpaaGreatDoor
open Go.RowKit

theorem Cells.up {a c d : World} {b : Nat} {cs : Array Value} {T : TypeId} (h : Cells a b cs T) (k : Below a.heap.size a c) (j : Below c.heap.size c d) : Cells d b cs T := Cells.below j (Cells.below k h)
end Go.Proofs.YtilfcikhipadpaaGreatDoor
end

section
/- A number laid into its place in a text, by the program's With and Word. -/
set_option linter.unusedVariables false
namespace Go.Proofs.YtilfcikhipadpaaGreatDoor
open Go.RowKit

end Go.Proofs.YtilfcikhipadpaaGreatDoor
end

section
/- tcp's sums over this program, and the document's. -/
set_option linter.unusedVariables false
namespace Go.Proofs.YtilfcikhipadpaaGreatDoor
open Go.RowKit
attribute [local go_sem] Oper.semAt_some

def tcpSum (a b : Int) (l : List UInt8) : Int := sumL [pseudo a b 6 l.length, lay l 16 0]
def tcpSeal (a b : Int) (l : List UInt8) : List UInt8 := if l.length < 20 then l else lay l 16 (tcpSum a b l)
theorem tcpSum_bd (a b : Int) (l : List UInt8) : 0 ≤ tcpSum a b l ∧ tcpSum a b l ≤ 65535 := sumL_bd _

end Go.Proofs.YtilfcikhipadpaaGreatDoor
end
