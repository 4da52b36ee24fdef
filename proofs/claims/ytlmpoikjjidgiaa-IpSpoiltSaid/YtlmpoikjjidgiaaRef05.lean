/- The document's answer for udp (porterref05) over this program. -/
import Derived.Test.YtlmpoikjjidgiaaRef02
import Derived.Test.YtlmpoikjjidgiaaNum
import Derived.Test.YtlmpoikjjidgiaaHeap
import Derived.Deep.RegionHeldLaw
import Derived.Deep.RegionHeld3
set_option linter.unusedVariables false
namespace Go.Proofs.Ytlmpoikjjidgiaa
open Go.RowKit
attribute [local go_sem] Oper.semAt_some

/-- is it a datagram -/
def udpIs (s : ByteArray) : Bool := decide (8 ≤ s.size) && decide (get16 (L s) 4 = s.size)
def udpHead (l : List UInt8) : Value := .agg #[.int .u16 (get16 l 0), .int .u16 (get16 l 2), .int .u16 (get16 l 4), .int .u16 (get16 l 6)]
def udpNone : Value := .agg #[.int .u16 0, .int .u16 0, .int .u16 0, .int .u16 0]

/-- the words of a datagram's header -/
def udpWords (a b c d : Int) : List UInt8 := putW [a, b, c, d]
end Go.Proofs.Ytlmpoikjjidgiaa
