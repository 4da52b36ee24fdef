/- udp over this program: what stands in a datagram's head, and whether it is one. -/
import Derived.Test.YtlmpoikjjidgiaaRef05
set_option linter.unusedVariables false
namespace Go.Proofs.Ytlmpoikjjidgiaa
open Go.RowKit
attribute [local go_sem] Oper.semAt_some

/-- the first k words of a head, the others 0 -/
def headTo (l : List UInt8) (k : Nat) : Array Value := #[.int .u16 (if 0 < k then get16 l 0 else 0), .int .u16 (if 1 < k then get16 l 2 else 0), .int .u16 (if 2 < k then get16 l 4 else 0), .int .u16 (if 3 < k then get16 l 6 else 0)]

end Go.Proofs.Ytlmpoikjjidgiaa
