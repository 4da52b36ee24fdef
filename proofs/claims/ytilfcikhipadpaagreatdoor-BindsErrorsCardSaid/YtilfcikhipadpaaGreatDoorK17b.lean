/- Several texts of this claim, one behind the other. -/
import Derived.Test.YtilfcikhipadpaaGreatDoorK16b
import Derived.Deep.RegionHeldLaw
import Derived.Deep.RegionHeld3

section
/- A number laid into its place in a text, by the program's With and Word. -/
set_option linter.unusedVariables false
namespace Go.Proofs.YtilfcikhipadpaaGreatDoor
open Go.RowKit

end Go.Proofs.YtilfcikhipadpaaGreatDoor
end

section
/- tcp's sums over this program, and the document's. -/
set_option linter.unusedVariables false
namespace Go.Proofs.YtilfcikhipadpaaGreatDoor
open Go.RowKit
attribute [local go_sem] Oper.semAt_some

def tcpSum (a b : Int) (l : List UInt8) : Int := sumL [pseudo a b 6 l.length, lay l 16 0]
def tcpSeal (a b : Int) (l : List UInt8) : List UInt8 := if l.length < 20 then l else lay l 16 (tcpSum a b l)
theorem tcpSum_bd (a b : Int) (l : List UInt8) : 0 ≤ tcpSum a b l ∧ tcpSum a b l ≤ 65535 := sumL_bd _

end Go.Proofs.YtilfcikhipadpaaGreatDoor
end

section
/- tcp.Parse of what is no segment; tcp.Put. -/
set_option linter.unusedVariables false
namespace Go.Proofs.YtilfcikhipadpaaGreatDoor
open Go.RowKit
attribute [local go_sem] Oper.semAt_some

/-- how many bytes a segment's header has -/
def tcpOwn (l : List UInt8) : Int := at_ l 12 / 16 * 4
/-- is it a segment -/
def tcpIs (s : ByteArray) : Bool := decide (20 ≤ s.size) && decide (20 ≤ tcpOwn (L s)) && decide (tcpOwn (L s) ≤ s.size)

end Go.Proofs.YtilfcikhipadpaaGreatDoor
end

section
/- tcp.Put over this program. -/
set_option linter.unusedVariables false
namespace Go.Proofs.YtilfcikhipadpaaGreatDoor
open Go.RowKit
attribute [local go_sem] Oper.semAt_some

/-- a segment's header -/
structure Seg where
  s : Int
  d : Int
  q : Int
  k : Int
  l : Int
  f : Int
  w : Int
  n : Int
  u : Int
  o : ByteArray
def Seg.Ok (h : Seg) : Prop := (0 ≤ h.s ∧ h.s ≤ 65535) ∧ (0 ≤ h.d ∧ h.d ≤ 65535) ∧ (0 ≤ h.q ∧ h.q ≤ 4294967295) ∧ (0 ≤ h.k ∧ h.k ≤ 4294967295) ∧ (0 ≤ h.l ∧ h.l ≤ 255) ∧ (0 ≤ h.f ∧ h.f ≤ 255) ∧ (0 ≤ h.w ∧ h.w ≤ 65535) ∧ (0 ≤ h.n ∧ h.n ≤ 65535) ∧ (0 ≤ h.u ∧ h.u ≤ 65535) ∧ h.o.size ≤ 140737488351232
/-- may it be put -/
def Seg.may (h : Seg) : Bool := decide (h.o.size ≤ 40) && decide (h.o.size % 4 = 0) && decide (h.l ≤ 15)
def Seg.off (h : Seg) : Int := (20 + (h.o.size : Int)) / 4 * 4096 + h.l * 256 + h.f
def Seg.head (h : Seg) : List UInt8 := putW [h.s, h.d] ++ put32 h.q ++ put32 h.k ++ putW [h.off, h.w, h.n, h.u]
def Seg.put (h : Seg) (p : ByteArray) : List UInt8 := h.head ++ L h.o ++ L p

theorem Row.up {X Y : World} {A : Option Addr} {n : Nat} {l : List Value} (r : Row X X.heap.size A n l) (b : Below X.heap.size X Y) : Row Y Y.heap.size A n l := (r.below b).more b.size

theorem Row.drawn {X : World} {A : Option Addr} {n : Nat} {l : List Value} (r : Row X X.heap.size A n l) : Row X.drew X.drew.heap.size A n l := r
end Go.Proofs.YtilfcikhipadpaaGreatDoor
end
