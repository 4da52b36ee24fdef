/- Several texts of this claim, one behind the other. -/
import Derived.Test.YtilfcikhipadpaaGreatDoorK16a

section
/- tcp.Put over this program. -/
set_option linter.unusedVariables false
namespace Go.Proofs.YtilfcikhipadpaaGreatDoor
open Go.RowKit
attribute [local go_sem] Oper.semAt_some

/-- a segment's header -/
structure Seg where
  s : Int
  d : Int
  q : Int
  k : Int
  l : Int
  f : Int
  w : Int
  n : Int
  u : Int
  o : ByteArray
def Seg.Ok (h : Seg) : Prop := (0 ≤ h.s ∧ h.s ≤ 65535) ∧ (0 ≤ h.d ∧ h.d ≤ 65535) ∧ (0 ≤ h.q ∧ h.q ≤ 4294967295) ∧ (0 ≤ h.k ∧ h.k ≤ 4294967295) ∧ (0 ≤ h.l ∧ h.l ≤ 255) ∧ (0 ≤ h.f ∧ h.f ≤ 255) ∧ (0 ≤ h.w ∧ h.w ≤ 65535) ∧ (0 ≤ h.n ∧ h.n ≤ 65535) ∧ (0 ≤ h.u ∧ h.u ≤ 65535) ∧ h.o.size ≤ 140737488351232
/-- may it be put -/
def Seg.may (h : Seg) : Bool := decide (h.o.size ≤ 40) && decide (h.o.size % 4 = 0) && decide (h.l ≤ 15)
def Seg.off (h : Seg) : Int := (20 + (h.o.size : Int)) / 4 * 4096 + h.l * 256 + h.f
def Seg.head (h : Seg) : List UInt8 := putW [h.s, h.d] ++ put32 h.q ++ put32 h.k ++ putW [h.off, h.w, h.n, h.u]
def Seg.put (h : Seg) (p : ByteArray) : List UInt8 := h.head ++ L h.o ++ L p

theorem Row.up {X Y : World} {A : Option Addr} {n : Nat} {l : List Value} (r : Row X X.heap.size A n l) (b : Below X.heap.size X Y) : Row Y Y.heap.size A n l := (r.below b).more b.size

theorem Row.drawn {X : World} {A : Option Addr} {n : Nat} {l : List Value} (r : Row X X.heap.size A n l) : Row X.drew X.drew.heap.size A n l := r
end Go.Proofs.YtilfcikhipadpaaGreatDoor
end

section
/- tcp.halves over this program: numbers of two bytes, into a struct's cells. -/
set_option linter.unusedVariables false
namespace Go.Proofs.YtilfcikhipadpaaGreatDoor
open Go.RowKit
attribute [local go_sem] Oper.semAt_some

end Go.Proofs.YtilfcikhipadpaaGreatDoor
end

section
/- A struct's cells, stored all. No program. -/
set_option linter.unusedVariables false
namespace Go.Proofs.YtilfcikhipadpaaGreatDoor
open Go.RowKit

theorem Cells.under {w w' : World} {n b : Nat} {cs : Array Value} {T : TypeId} (k : Below n w w') (h : Cells w b cs T) (hb : b < n) : Cells w' b cs T := (k.block b hb).trans h
end Go.Proofs.YtilfcikhipadpaaGreatDoor
end

section
/- tcp.Parse over this program, of what is a segment. -/
set_option linter.unusedVariables false
namespace Go.Proofs.YtilfcikhipadpaaGreatDoor
open Go.RowKit
attribute [local go_sem] Oper.semAt_some

/-- what a text is as a segment -/
def segOf (s : ByteArray) : Seg := ⟨get16 (L s) 0, get16 (L s) 2, get32 (L s) 4, get32 (L s) 8, at_ (L s) 12 % 16, at_ (L s) 13, get16 (L s) 14, get16 (L s) 16, get16 (L s) 18, s.extract 20 (tcpOwn (L s)).toNat⟩
def Seg.cells (h : Seg) : Array Value := #[.int .u16 h.s, .int .u16 h.d, .int .u32 h.q, .int .u32 h.k, .int .u8 h.l, .int .u8 h.f, .int .u16 h.w, .int .u16 h.n, .int .u16 h.u, .string h.o]

end Go.Proofs.YtilfcikhipadpaaGreatDoor
end
