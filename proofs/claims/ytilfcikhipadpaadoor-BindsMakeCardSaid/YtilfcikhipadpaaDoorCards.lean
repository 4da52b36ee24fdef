/-
  DERIVED. GIVEN WITH THE SEED: THE CARDS: each row of YtilfcikhipadpaaDoorRows.lean that lists a variable, with what it lists TIED to the program's text (the seventh form; the later family's looks); each row that meets fmt, with fmt's text TOLD by the authors' own Lean function (tested against real Go, not proved from fmt's source: count such statements apart). THE CARD IS WHAT COUNTS. Prove the row's statement (the work); the ties are given (YtilfcikhipadpaaDoorTie.lean); close each card by the builder's one call (the guide's Derived/Test/ToyasCard.lean, 'card_holds'). Laid BY PROGRAM, IN A SANDBOX (cutbox-door.mjs). By AI agents, Wed Nov 11 2026. No macro, syntax, notation, axiom, sorry.
-/
import Derived.Test.YtilfcikhipadpaaDoorRows
import GoSem.ClaimSeven
namespace Go.Proofs.YtilfcikhipadpaaDoor
namespace Rows

/-- THE TIED CARD OF 'porterlaw20.BindsMake'. -/
def bindsMakeCard : Claim7 := { stood := { row := bindsMakeRow, standIns := [], harness := (true, "4a179c07216e2908850213962a60b1fb9c9f7b6cce96359ab29e204dd17e3ca4"), looks := false }, kinds := [], alts := [], laidByText := true, laidKinds := [.data, .mapped], laidTests := true, laidLooks := .later }
def BindsMakeCardSaid : Prop := Claim7.holds Tryd.pinned (.plain (OpenSpec.ofChange bindsMakeSpec)) bindsMakeCard

/-- THE SECOND FORM's CARD OF 'porterlaw20.BindsMake'. -/
def bindsMakeUptoCard : Claim7 := { stood := { row := bindsMakeUptoRow, standIns := [], harness := (true, "4a179c07216e2908850213962a60b1fb9c9f7b6cce96359ab29e204dd17e3ca4"), looks := false }, kinds := [], alts := [], laidByText := true, laidKinds := [.data, .mapped], laidTests := true, laidLooks := .later }
def BindsMakeUptoCardSaid : Prop := Claim7.holds Tryd.pinned (.plain (OpenSpec.upto bindsMakeSpec)) bindsMakeUptoCard
end Rows
end Go.Proofs.YtilfcikhipadpaaDoor
