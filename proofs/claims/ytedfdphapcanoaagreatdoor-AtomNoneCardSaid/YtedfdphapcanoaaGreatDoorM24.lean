/- Several texts of this claim, one behind the other. -/
import Derived.Test.YtedfdphapcanoaaGreatDoorM13
import Derived.Test.YtedfdphapcanoaaGreatDoorM23
import Derived.Test.YtedfdphapcanoaaGreatDoorM16
import Derived.Test.YtedfdphapcanoaaGreatDoorM22

section
/- A number laid into its place in a text, by the program's With and Word. -/
set_option linter.unusedVariables false
namespace Go.Proofs.YtedfdphapcanoaaGreatDoor
open Go.RowKit

theorem putW_one (n : Int) : putW [n] = put16 n := by simp [putW]
theorem Word1 (n : Int) (h : 0 ≤ n ∧ n ≤ 65535) (W : World) : Calls Tryz.prog 151 #[.slice (some ⟨W.heap.size, 0, none⟩) 1 1] (W.alloc (.cells #[.int .u16 n] 28)) (Ret (.string (S (put16 n))) (W.alloc (.cells #[.int .u16 n] 28))) := by
  have h1 := Word (some ⟨W.heap.size, 0, none⟩) 1 1 [n] (W.alloc (.cells #[.int .u16 n] 28)) (Row.freshAt W #[.int .u16 n] 28 W.heap.size _ _ rfl rfl rfl) (by simpa using h) (by omega)
  rwa [putW_one] at h1
theorem With_lay (s : ByteArray) (i : Int) (k : Nat) (n : Int) (hi : i = k) (hs : s.size ≤ 140737488351232) (h : k + 2 ≤ s.size) (W : World) :
    Calls Tryz.prog 224 #[.string s, .int .i64 i, .string (S (put16 n))] W (Ret (.tuple #[.string (S (lay (L s) k n)), .bool true]) W) := by
  subst hi
  have c := With_in s k (S (put16 n)) W hs (by rw [S_size, put16_length]; omega)
  have e : (L s).take k ++ (L (S (put16 n)) ++ (L s).drop (k + (S (put16 n)).size)) = lay (L s) k n := by rw [← List.append_assoc]; rfl
  rwa [e] at c
end Go.Proofs.YtedfdphapcanoaaGreatDoor
end

section
/- tcp's sums over this program, and the document's. -/
set_option linter.unusedVariables false
namespace Go.Proofs.YtedfdphapcanoaaGreatDoor
open Go.RowKit
attribute [local go_sem] Oper.semAt_some

/-- is a segment's sum right; a segment with its sum -/
def tcpOk (a b : Int) (s : ByteArray) : Bool := decide (20 ≤ s.size) && holds [pseudo a b 6 s.size, L s]
def tcpSum (a b : Int) (l : List UInt8) : Int := sumL [pseudo a b 6 l.length, lay l 16 0]
def tcpSeal (a b : Int) (l : List UInt8) : List UInt8 := if l.length < 20 then l else lay l 16 (tcpSum a b l)
theorem tcpSum_bd (a b : Int) (l : List UInt8) : 0 ≤ tcpSum a b l ∧ tcpSum a b l ≤ 65535 := sumL_bd _

end Go.Proofs.YtedfdphapcanoaaGreatDoor
end
