/- RulesApart's inner loop: its code. -/
import Derived.Test.YtbboajhdijabbaaRlaw8
import Derived.Test.YtbboajhdijabbaaLight
import Derived.Deep.LoopGhost
import Derived.Deep.DeepCutAuto
import Derived.Deep.CutBlock
set_option linter.unusedVariables false
set_option linter.unusedSimpArgs false
namespace Go.Proofs.Ytbboajhdijabbaa
open Go.RowKit Go.Lib
attribute [local go_sem] Oper.semAt_some envL lookV

/-- the first loop's body -/
def loopIn : Code → Option Code
  | .loop c => some c
  | .seq a b => (loopIn a).orElse fun _ => loopIn b
  | .block _ c => loopIn c
  | .scope c => loopIn c
  | .cond _ a b => (loopIn a).orElse fun _ => loopIn b
  | _ => none
noncomputable def apartBody : Code := ((Try.f6.body.bind loopIn).bind loopIn).getD .skip
end Go.Proofs.Ytbboajhdijabbaa
