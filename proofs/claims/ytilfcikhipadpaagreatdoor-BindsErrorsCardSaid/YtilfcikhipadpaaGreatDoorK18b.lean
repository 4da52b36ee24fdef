/- Several texts of this claim, one behind the other. -/
import Derived.Test.YtilfcikhipadpaaGreatDoorK17b

section
/- tcp.halves over this program: numbers of two bytes, into a struct's cells. -/
set_option linter.unusedVariables false
namespace Go.Proofs.YtilfcikhipadpaaGreatDoor
open Go.RowKit
attribute [local go_sem] Oper.semAt_some

end Go.Proofs.YtilfcikhipadpaaGreatDoor
end

section
/- A struct's cells, stored all. No program. -/
set_option linter.unusedVariables false
namespace Go.Proofs.YtilfcikhipadpaaGreatDoor
open Go.RowKit

theorem Cells.under {w w' : World} {n b : Nat} {cs : Array Value} {T : TypeId} (k : Below n w w') (h : Cells w b cs T) (hb : b < n) : Cells w' b cs T := (k.block b hb).trans h
end Go.Proofs.YtilfcikhipadpaaGreatDoor
end

section
/- tcp.Parse over this program, of what is a segment. -/
set_option linter.unusedVariables false
namespace Go.Proofs.YtilfcikhipadpaaGreatDoor
open Go.RowKit
attribute [local go_sem] Oper.semAt_some

/-- what a text is as a segment -/
def segOf (s : ByteArray) : Seg := ⟨get16 (L s) 0, get16 (L s) 2, get32 (L s) 4, get32 (L s) 8, at_ (L s) 12 % 16, at_ (L s) 13, get16 (L s) 14, get16 (L s) 16, get16 (L s) 18, s.extract 20 (tcpOwn (L s)).toNat⟩
def Seg.cells (h : Seg) : Array Value := #[.int .u16 h.s, .int .u16 h.d, .int .u32 h.q, .int .u32 h.k, .int .u8 h.l, .int .u8 h.f, .int .u16 h.w, .int .u16 h.n, .int .u16 h.u, .string h.o]

end Go.Proofs.YtilfcikhipadpaaGreatDoor
end

section
/- The document's answer for tcp (porterref06) over this program: what a text is as a segment. -/
set_option linter.unusedVariables false
set_option linter.unusedSimpArgs false
namespace Go.Proofs.YtilfcikhipadpaaGreatDoor
open Go.RowKit
attribute [local go_sem] Oper.semAt_some

end Go.Proofs.YtilfcikhipadpaaGreatDoor
end
