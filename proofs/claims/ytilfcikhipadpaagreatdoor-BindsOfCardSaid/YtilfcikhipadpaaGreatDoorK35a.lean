/- Several texts of this claim, one behind the other. -/
import Derived.Test.YtilfcikhipadpaaGreatDoorK34a

section
/- The document's answer for rewrite (porterref09): Apply, over this program. -/
set_option linter.unusedVariables false
set_option linter.unusedSimpArgs false
namespace Go.Proofs.YtilfcikhipadpaaGreatDoor
open Go.RowKit
attribute [local go_sem] Oper.semAt_some

end Go.Proofs.YtilfcikhipadpaaGreatDoor
end

section
/- porterref10: addr, Look: what an error is about, by the document. -/
set_option linter.unusedVariables false
set_option linter.unusedSimpArgs false
namespace Go.Proofs.YtilfcikhipadpaaGreatDoor
open Go.RowKit
attribute [local go_sem] Oper.semAt_some envL lookV

end Go.Proofs.YtilfcikhipadpaaGreatDoor
end

section
/- porterref10.Look, where the header is good. -/
set_option linter.unusedVariables false
set_option linter.unusedSimpArgs false
namespace Go.Proofs.YtilfcikhipadpaaGreatDoor
open Go.RowKit
attribute [local go_sem] Oper.semAt_some envL lookV

end Go.Proofs.YtilfcikhipadpaaGreatDoor
end

section
/- porterref10.Look, whole; message, Inner: the document. -/
set_option linter.unusedVariables false
set_option linter.unusedSimpArgs false
namespace Go.Proofs.YtilfcikhipadpaaGreatDoor
open Go.RowKit
attribute [local go_sem] Oper.semAt_some envL lookV

end Go.Proofs.YtilfcikhipadpaaGreatDoor
end
