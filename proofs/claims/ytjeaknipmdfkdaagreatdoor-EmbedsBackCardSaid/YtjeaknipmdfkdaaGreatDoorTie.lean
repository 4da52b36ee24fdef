/-
  DERIVED. GIVEN WITH THE SEED: THE PROGRAM's TIES (one call each: nine closed facts by the kernel) AND EACH ROW's TIE, after the 31st guide's Derived/Test/Toyas{Tie, Card}.lean. No idea stands in it: it is a product of the set-up. Laid BY PROGRAM, IN A SANDBOX (cutbox-door.mjs). By AI agents, Wed Nov 11 2026. No macro, syntax, notation, axiom, sorry.
-/
import Derived.Test.YtjeaknipmdfkdaaGreatDoorRows
import Derived.LaidByTextLater
import Derived.SevenTiedAt
import Derived.LaidSub
import Derived.LaidOnce
namespace Go.Proofs.YtjeaknipmdfkdaaGreatDoor
open Go
set_option maxRecDepth 100000
theorem seatTie1 : Tryz.prog.laidByTextLater [("math/bits.deBruijn32tab", Rows.laid_math_bits_deBruijn32tab), ("math/bits.deBruijn64tab", Rows.laid_math_bits_deBruijn64tab), ("internal/strconv.uint64pow10", Rows.laid_internal_strconv_uint64pow10), ("porter/icmp.kinds", Rows.laid_porter_icmp_kinds), ("porter/tuples.words", Rows.laid_porter_tuples_words)] [.data, .data, .data, .mapped, .mapped] true :=
  Program.laidByTextLater_by_one 84 8 65 (by kernel_rfl) (by kernel_rfl) (by kernel_rfl) (by kernel_rfl) (by kernel_rfl) (by kernel_rfl) (fun _ _ => by kernel_rfl)
theorem noOwnUnsafe : Tryz.pinned.checked.prog.headLifts.contains "ownunsafe" = false := by kernel_rfl
theorem tie : Tryz.prog.laidByTextLater [("math/bits.deBruijn32tab", Rows.laid_math_bits_deBruijn32tab), ("math/bits.deBruijn64tab", Rows.laid_math_bits_deBruijn64tab), ("internal/strconv.uint64pow10", Rows.laid_internal_strconv_uint64pow10), ("porter/icmp.kinds", Rows.laid_porter_icmp_kinds), ("porter/tuples.words", Rows.laid_porter_tuples_words)] [.data, .data, .data, .mapped, .mapped] true :=
  Program.laidByTextLater.sub seatTie1 ["math/bits.deBruijn32tab", "math/bits.deBruijn64tab", "internal/strconv.uint64pow10", "porter/icmp.kinds", "porter/tuples.words"] (by kernel_rfl) (by kernel_rfl)
theorem embedsTell_row_tie : Rows.embedsTellRow.laidByTextAt .later Tryz.pinned [.data, .data, .data, .mapped, .mapped] true :=
  OpenClaim.laidByTextAt_later rfl rfl tie noOwnUnsafe
theorem embedsData_row_tie : Rows.embedsDataRow.laidByTextAt .later Tryz.pinned [.data, .data, .data, .mapped, .mapped] true :=
  OpenClaim.laidByTextAt_later rfl rfl tie noOwnUnsafe
theorem embedsRest_row_tie : Rows.embedsRestRow.laidByTextAt .later Tryz.pinned [.data, .data, .data, .mapped, .mapped] true :=
  OpenClaim.laidByTextAt_later rfl rfl tie noOwnUnsafe
theorem embedsBack_row_tie : Rows.embedsBackRow.laidByTextAt .later Tryz.pinned [.data, .data, .data, .mapped, .mapped] true :=
  OpenClaim.laidByTextAt_later rfl rfl tie noOwnUnsafe
theorem embedsInner_row_tie : Rows.embedsInnerRow.laidByTextAt .later Tryz.pinned [.data, .data, .data, .mapped, .mapped] true :=
  OpenClaim.laidByTextAt_later rfl rfl tie noOwnUnsafe
theorem embedsTellUpto_row_tie : Rows.embedsTellUptoRow.laidByTextAt .later Tryz.pinned [.data, .data, .data, .mapped, .mapped] true :=
  OpenClaim.laidByTextAt_later rfl rfl tie noOwnUnsafe
theorem embedsDataUpto_row_tie : Rows.embedsDataUptoRow.laidByTextAt .later Tryz.pinned [.data, .data, .data, .mapped, .mapped] true :=
  OpenClaim.laidByTextAt_later rfl rfl tie noOwnUnsafe
theorem embedsRestUpto_row_tie : Rows.embedsRestUptoRow.laidByTextAt .later Tryz.pinned [.data, .data, .data, .mapped, .mapped] true :=
  OpenClaim.laidByTextAt_later rfl rfl tie noOwnUnsafe
theorem embedsBackUpto_row_tie : Rows.embedsBackUptoRow.laidByTextAt .later Tryz.pinned [.data, .data, .data, .mapped, .mapped] true :=
  OpenClaim.laidByTextAt_later rfl rfl tie noOwnUnsafe
theorem embedsInnerUpto_row_tie : Rows.embedsInnerUptoRow.laidByTextAt .later Tryz.pinned [.data, .data, .data, .mapped, .mapped] true :=
  OpenClaim.laidByTextAt_later rfl rfl tie noOwnUnsafe
end Go.Proofs.YtjeaknipmdfkdaaGreatDoor
