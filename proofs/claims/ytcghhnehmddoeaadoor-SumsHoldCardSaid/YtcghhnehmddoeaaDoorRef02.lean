/- The document's answer for sums (porterref02) over this program: the same words as the package's. -/
import Derived.Test.YtcghhnehmddoeaaDoorSum
import Derived.Test.YtcghhnehmddoeaaDoorRef01
set_option linter.unusedVariables false
namespace Go.Proofs.YtcghhnehmddoeaaDoor
open Go.RowKit

theorem word_len (l : List UInt8) (k : Nat) : k < (words l).length ↔ 2 * k < l.length := by
  have h := even_length l
  unfold even at h
  split at h
  · rw [List.length_append] at h; simp at h; omega
  · omega
theorem word_zero {l : List UInt8} {k : Nat} (hk : k < (words l).length) : get16 (l ++ [0]) (2 * (k : Int)) = (words l).getD k 0 := by
  have h2 := (word_len l k).1 hk
  rw [show 2 * (k : Int) = ((2 * k : Nat) : Int) from by omega, get16_nat (by simp; omega), ← even_word l k hk]
  unfold even
  split
  · rfl
  · rw [be16_left (by omega)]

theorem zip_take_snoc {xs ys : List Int} {k : Nat} (h1 : k < xs.length) (h2 : k < ys.length) : (xs.zip ys).take (k + 1) = (xs.zip ys).take k ++ [(xs.getD k 0, ys.getD k 0)] := by
  rw [List.take_succ_eq_append_getElem (by simp; omega), List.getElem_zip]
  simp [List.getD_eq_getElem?_getD, List.getElem?_eq_getElem h1, List.getElem?_eq_getElem h2]

end Go.Proofs.YtcghhnehmddoeaaDoor
