/- A number laid into its place in a text, by the program's With and Word. -/
import Derived.Test.YthmedjlecikbiaaDoorFields
import Derived.Test.YthmedjlecikbiaaDoorBit
import Derived.Test.YthmedjlecikbiaaDoorHeap2
set_option linter.unusedVariables false
namespace Go.Proofs.YthmedjlecikbiaaDoor
open Go.RowKit

theorem putW_one (n : Int) : putW [n] = put16 n := by simp [putW]
theorem Word1 (n : Int) (h : 0 ≤ n ∧ n ≤ 65535) (W : World) : Calls Tryd.prog 30 #[.slice (some ⟨W.heap.size, 0, none⟩) 1 1] (W.alloc (.cells #[.int .u16 n] 25)) (Ret (.string (S (put16 n))) (W.alloc (.cells #[.int .u16 n] 25))) := by
  have h1 := Word (some ⟨W.heap.size, 0, none⟩) 1 1 [n] (W.alloc (.cells #[.int .u16 n] 25)) (Row.freshAt W #[.int .u16 n] 25 W.heap.size _ _ rfl rfl rfl) (by simpa using h) (by omega)
  rwa [putW_one] at h1
theorem With_lay (s : ByteArray) (i : Int) (k : Nat) (n : Int) (hi : i = k) (hs : s.size ≤ 140737488351232) (h : k + 2 ≤ s.size) (W : World) :
    Calls Tryd.prog 29 #[.string s, .int .i64 i, .string (S (put16 n))] W (Ret (.tuple #[.string (S (lay (L s) k n)), .bool true]) W) := by
  subst hi
  have c := With_in s k (S (put16 n)) W hs (by rw [S_size, put16_length]; omega)
  have e : (L s).take k ++ (L (S (put16 n)) ++ (L s).drop (k + (S (put16 n)).size)) = lay (L s) k n := by rw [← List.append_assoc]; rfl
  rwa [e] at c
end Go.Proofs.YthmedjlecikbiaaDoor
