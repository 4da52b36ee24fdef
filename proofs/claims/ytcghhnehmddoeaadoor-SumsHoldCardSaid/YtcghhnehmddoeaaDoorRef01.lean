/- The document's answer for numbers in texts (porterref01) over this program: the same words of the base. Conditions: texts below 2^47 bytes. -/
import Derived.Test.YtcghhnehmddoeaaDoorFields
set_option linter.unusedVariables false
namespace Go.Proofs.YtcghhnehmddoeaaDoor
open Go.RowKit

/-- the number of k bytes from place i on -/
def ben (l : List UInt8) (i : Nat) : Nat → Int
  | 0 => 0
  | k + 1 => ben l i k * 256 + at_ l (i + k)
theorem ben_bd (l : List UInt8) (i k : Nat) (hk : k ≤ 3) : 0 ≤ ben l i k ∧ ben l i k ≤ 16777215 := by
  have b0 := at_bd l (i + 0)
  have b1 := at_bd l (i + 1)
  have b2 := at_bd l (i + 2)
  match k, hk with
  | 0, _ => simp [ben]
  | 1, _ => simp only [ben]; omega
  | 2, _ => simp only [ben]; omega
  | 3, _ => simp only [ben]; omega
theorem ben2 (l : List UInt8) (i : Nat) : ben l i 2 = be16 l i := by simp only [ben, be16, Nat.add_zero]; omega
theorem ben4 (l : List UInt8) (i : Nat) : ben l i 4 = be32 l i := by
  simp only [ben, be32, be16, Nat.add_zero, Nat.add_assoc, Nat.reduceAdd]; omega

/-- string(b), b a new row of two bytes -/
theorem conv2 (c d : Int) (w : World) : (convert 37 9 (.slice (some ⟨w.heap.size, 0, none⟩) 2 2)).run Tryd.prog (w.alloc (.cells #[.int .u8 c, .int .u8 d] 5)) =
    .ok (.string (S [byt c, byt d])) (w.alloc (.cells #[.int .u8 c, .int .u8 d] 5)) :=
  run_convert_bytes_arg (P := Tryd.prog) (w.alloc (.cells #[.int .u8 c, .int .u8 d] 5)) 37 5 Tryd.underlying37 Tryd.underlying5 w.heap.size 0 2 2 [c, d] rfl
    (fun i hi => by
      rw [Lib.cell_of_heap (heap_alloc_new w _)]
      match i, hi with
      | 0, _ => rfl
      | 1, _ => rfl) 9 Tryd.underlying9
theorem conv1 (c : Int) (w : World) : (convert 37 9 (.slice (some ⟨w.heap.size, 0, none⟩) 1 1)).run Tryd.prog (w.alloc (.cells #[.int .u8 c] 5)) =
    .ok (.string (S [byt c])) (w.alloc (.cells #[.int .u8 c] 5)) :=
  run_convert_bytes_arg (P := Tryd.prog) (w.alloc (.cells #[.int .u8 c] 5)) 37 5 Tryd.underlying37 Tryd.underlying5 w.heap.size 0 1 1 [c] rfl
    (fun i hi => by
      rw [Lib.cell_of_heap (heap_alloc_new w _)]
      match i, hi with
      | 0, _ => rfl) 9 Tryd.underlying9

theorem byt_mod (n : Int) (h : 0 ≤ n) : byt (n % 256) = byt n := by
  apply UInt8.toNat_inj.1
  rw [byt_toNat, byt_toNat]; omega

end Go.Proofs.YtcghhnehmddoeaaDoor
