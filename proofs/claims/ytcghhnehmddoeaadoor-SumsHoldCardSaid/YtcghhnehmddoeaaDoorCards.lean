/-
  DERIVED. GIVEN WITH THE SEED: THE CARDS: each row of YtcghhnehmddoeaaDoorRows.lean that lists a variable, with what it lists TIED to the program's text (the seventh form; the later family's looks); each row that meets fmt, with fmt's text TOLD by the authors' own Lean function (tested against real Go, not proved from fmt's source: count such statements apart). THE CARD IS WHAT COUNTS. Prove the row's statement (the work); the ties are given (YtcghhnehmddoeaaDoorTie.lean); close each card by the builder's one call (the guide's Derived/Test/ToyasCard.lean, 'card_holds'). Laid BY PROGRAM, IN A SANDBOX (cutbox-door.mjs). By AI agents, Wed Nov 11 2026. No macro, syntax, notation, axiom, sorry.
-/
import Derived.Test.YtcghhnehmddoeaaDoorRows
import GoSem.ClaimSeven
namespace Go.Proofs.YtcghhnehmddoeaaDoor
namespace Rows

/-- THE TIED CARD OF 'porterlaw02.SumsSpoilt'. -/
def sumsSpoiltCard : Claim7 := { stood := { row := sumsSpoiltRow, standIns := [], harness := (true, "aa9393c095a711b6a9aede68f0d79a08d00976a0fc6813f6ff19aa2f3b071a42"), looks := false }, kinds := [], alts := [], laidByText := true, laidKinds := [.data, .pinned], laidTests := true, laidLooks := .later }
def SumsSpoiltCardSaid : Prop := Claim7.holds Tryd.pinned (.plain (OpenSpec.ofChange sumsSpoiltSpec)) sumsSpoiltCard

/-- THE TIED CARD OF 'porterlaw02.SumsHold'. -/
def sumsHoldCard : Claim7 := { stood := { row := sumsHoldRow, standIns := [], harness := (true, "aa9393c095a711b6a9aede68f0d79a08d00976a0fc6813f6ff19aa2f3b071a42"), looks := false }, kinds := [], alts := [], laidByText := true, laidKinds := [.data, .pinned], laidTests := true, laidLooks := .later }
def SumsHoldCardSaid : Prop := Claim7.holds Tryd.pinned (.plain (OpenSpec.ofChange sumsHoldSpec)) sumsHoldCard

/-- THE SECOND FORM's CARD OF 'porterlaw02.SumsSpoilt'. -/
def sumsSpoiltUptoCard : Claim7 := { stood := { row := sumsSpoiltUptoRow, standIns := [], harness := (true, "aa9393c095a711b6a9aede68f0d79a08d00976a0fc6813f6ff19aa2f3b071a42"), looks := false }, kinds := [], alts := [], laidByText := true, laidKinds := [.data, .pinned], laidTests := true, laidLooks := .later }
def SumsSpoiltUptoCardSaid : Prop := Claim7.holds Tryd.pinned (.plain (OpenSpec.upto sumsSpoiltSpec)) sumsSpoiltUptoCard

/-- THE SECOND FORM's CARD OF 'porterlaw02.SumsHold'. -/
def sumsHoldUptoCard : Claim7 := { stood := { row := sumsHoldUptoRow, standIns := [], harness := (true, "aa9393c095a711b6a9aede68f0d79a08d00976a0fc6813f6ff19aa2f3b071a42"), looks := false }, kinds := [], alts := [], laidByText := true, laidKinds := [.data, .pinned], laidTests := true, laidLooks := .later }
def SumsHoldUptoCardSaid : Prop := Claim7.holds Tryd.pinned (.plain (OpenSpec.upto sumsHoldSpec)) sumsHoldUptoCard
end Rows
end Go.Proofs.YtcghhnehmddoeaaDoor
