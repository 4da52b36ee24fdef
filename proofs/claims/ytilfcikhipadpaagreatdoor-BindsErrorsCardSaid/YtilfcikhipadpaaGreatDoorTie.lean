/-
  DERIVED. GIVEN WITH THE SEED: THE PROGRAM's TIES (one call each: nine closed facts by the kernel) AND EACH ROW's TIE, after the 31st guide's Derived/Test/Toyas{Tie, Card}.lean. No idea stands in it: it is a product of the set-up. Laid BY PROGRAM, IN A SANDBOX (cutbox-door.mjs). By AI agents, Wed Nov 11 2026. No macro, syntax, notation, axiom, sorry.
-/
import Derived.Test.YtilfcikhipadpaaGreatDoorRows
import Derived.LaidByTextLater
import Derived.SevenTiedAt
import Derived.LaidSub
import Derived.LaidOnce
namespace Go.Proofs.YtilfcikhipadpaaGreatDoor
open Go
set_option maxRecDepth 100000
theorem seatTie1 : Tryz.prog.laidByTextLater [("porter/track.lasts", Rows.laid_porter_track_lasts), ("porter/icmp.kinds", Rows.laid_porter_icmp_kinds), ("porter/tuples.words", Rows.laid_porter_tuples_words)] [.data, .mapped, .mapped] true :=
  Program.laidByTextLater_by_one 77 8 33 (by kernel_rfl) (by kernel_rfl) (by kernel_rfl) (by kernel_rfl) (by kernel_rfl) (by kernel_rfl) (fun _ _ => by kernel_rfl)
theorem noOwnUnsafe : Tryz.pinned.checked.prog.headLifts.contains "ownunsafe" = false := by kernel_rfl
theorem tie : Tryz.prog.laidByTextLater [("porter/track.lasts", Rows.laid_porter_track_lasts), ("porter/icmp.kinds", Rows.laid_porter_icmp_kinds)] [.data, .mapped] true :=
  Program.laidByTextLater.sub seatTie1 ["porter/track.lasts", "porter/icmp.kinds"] (by kernel_rfl) (by kernel_rfl)
theorem bindsSee_row_tie : Rows.bindsSeeRow.laidByTextAt .later Tryz.pinned [.data, .mapped] true :=
  OpenClaim.laidByTextAt_later rfl rfl tie noOwnUnsafe
theorem bindsOf_row_tie : Rows.bindsOfRow.laidByTextAt .later Tryz.pinned [.data, .mapped] true :=
  OpenClaim.laidByTextAt_later rfl rfl tie noOwnUnsafe
theorem bindsOwn_row_tie : Rows.bindsOwnRow.laidByTextAt .later Tryz.pinned [.data, .mapped] true :=
  OpenClaim.laidByTextAt_later rfl rfl tie noOwnUnsafe
theorem bindsSend_row_tie : Rows.bindsSendRow.laidByTextAt .later Tryz.pinned [.data, .mapped] true :=
  OpenClaim.laidByTextAt_later rfl rfl tie noOwnUnsafe
theorem tie2 : Tryz.prog.laidByTextLater [("porter/track.lasts", Rows.laid_porter_track_lasts), ("porter/icmp.kinds", Rows.laid_porter_icmp_kinds), ("porter/tuples.words", Rows.laid_porter_tuples_words)] [.data, .mapped, .mapped] true :=
  Program.laidByTextLater.sub seatTie1 ["porter/track.lasts", "porter/icmp.kinds", "porter/tuples.words"] (by kernel_rfl) (by kernel_rfl)
theorem bindsGoes_row_tie : Rows.bindsGoesRow.laidByTextAt .later Tryz.pinned [.data, .mapped, .mapped] true :=
  OpenClaim.laidByTextAt_later rfl rfl tie2 noOwnUnsafe
theorem bindsErrors_row_tie : Rows.bindsErrorsRow.laidByTextAt .later Tryz.pinned [.data, .mapped, .mapped] true :=
  OpenClaim.laidByTextAt_later rfl rfl tie2 noOwnUnsafe
theorem bindsSeeUpto_row_tie : Rows.bindsSeeUptoRow.laidByTextAt .later Tryz.pinned [.data, .mapped] true :=
  OpenClaim.laidByTextAt_later rfl rfl tie noOwnUnsafe
theorem bindsOfUpto_row_tie : Rows.bindsOfUptoRow.laidByTextAt .later Tryz.pinned [.data, .mapped] true :=
  OpenClaim.laidByTextAt_later rfl rfl tie noOwnUnsafe
theorem bindsOwnUpto_row_tie : Rows.bindsOwnUptoRow.laidByTextAt .later Tryz.pinned [.data, .mapped] true :=
  OpenClaim.laidByTextAt_later rfl rfl tie noOwnUnsafe
theorem bindsSendUpto_row_tie : Rows.bindsSendUptoRow.laidByTextAt .later Tryz.pinned [.data, .mapped] true :=
  OpenClaim.laidByTextAt_later rfl rfl tie noOwnUnsafe
theorem bindsGoesUpto_row_tie : Rows.bindsGoesUptoRow.laidByTextAt .later Tryz.pinned [.data, .mapped, .mapped] true :=
  OpenClaim.laidByTextAt_later rfl rfl tie2 noOwnUnsafe
theorem bindsErrorsUpto_row_tie : Rows.bindsErrorsUptoRow.laidByTextAt .later Tryz.pinned [.data, .mapped, .mapped] true :=
  OpenClaim.laidByTextAt_later rfl rfl tie2 noOwnUnsafe
end Go.Proofs.YtilfcikhipadpaaGreatDoor
