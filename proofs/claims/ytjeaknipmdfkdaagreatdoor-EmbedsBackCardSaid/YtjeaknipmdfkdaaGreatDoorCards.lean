/-
  DERIVED. GIVEN WITH THE SEED: THE CARDS: each row of YtjeaknipmdfkdaaGreatDoorRows.lean that lists a variable, with what it lists TIED to the program's text (the seventh form; the later family's looks); each row that meets fmt, with fmt's text TOLD by the authors' own Lean function (tested against real Go, not proved from fmt's source: count such statements apart). THE CARD IS WHAT COUNTS. Prove the row's statement (the work); the ties are given (YtjeaknipmdfkdaaGreatDoorTie.lean); close each card by the builder's one call (the guide's Derived/Test/ToyasCard.lean, 'card_holds'). Laid BY PROGRAM, IN A SANDBOX (cutbox-door.mjs). By AI agents, Wed Nov 11 2026. No macro, syntax, notation, axiom, sorry.
-/
import Derived.Test.YtjeaknipmdfkdaaGreatDoorRows
import GoSem.ClaimSeven
namespace Go.Proofs.YtjeaknipmdfkdaaGreatDoor
namespace Rows

/-- THE TIED CARD OF 'porterlaw10.EmbedsTell'. -/
def embedsTellCard : Claim7 := { stood := { row := embedsTellRow, standIns := [], harness := (true, "2421422d5d3291b2479eb86f036a9ee2adb07fb52707420c910e1f012a1b051c"), looks := false }, kinds := [], alts := [], laidByText := true, laidKinds := [.data, .data, .data, .mapped, .mapped], laidTests := true, laidLooks := .later }
def EmbedsTellCardSaid : Prop := Claim7.holds Tryz.pinned (.plain (OpenSpec.ofChange embedsTellSpec)) embedsTellCard

/-- THE TIED CARD OF 'porterlaw10.EmbedsData'. -/
def embedsDataCard : Claim7 := { stood := { row := embedsDataRow, standIns := [], harness := (true, "2421422d5d3291b2479eb86f036a9ee2adb07fb52707420c910e1f012a1b051c"), looks := false }, kinds := [], alts := [], laidByText := true, laidKinds := [.data, .data, .data, .mapped, .mapped], laidTests := true, laidLooks := .later }
def EmbedsDataCardSaid : Prop := Claim7.holds Tryz.pinned (.plain (OpenSpec.ofChange embedsDataSpec)) embedsDataCard

/-- THE TIED CARD OF 'porterlaw10.EmbedsRest'. -/
def embedsRestCard : Claim7 := { stood := { row := embedsRestRow, standIns := [], harness := (true, "2421422d5d3291b2479eb86f036a9ee2adb07fb52707420c910e1f012a1b051c"), looks := false }, kinds := [], alts := [], laidByText := true, laidKinds := [.data, .data, .data, .mapped, .mapped], laidTests := true, laidLooks := .later }
def EmbedsRestCardSaid : Prop := Claim7.holds Tryz.pinned (.plain (OpenSpec.ofChange embedsRestSpec)) embedsRestCard

/-- THE TIED CARD OF 'porterlaw10.EmbedsBack'. -/
def embedsBackCard : Claim7 := { stood := { row := embedsBackRow, standIns := [], harness := (true, "2421422d5d3291b2479eb86f036a9ee2adb07fb52707420c910e1f012a1b051c"), looks := false }, kinds := [], alts := [], laidByText := true, laidKinds := [.data, .data, .data, .mapped, .mapped], laidTests := true, laidLooks := .later }
def EmbedsBackCardSaid : Prop := Claim7.holds Tryz.pinned (.plain (OpenSpec.ofChange embedsBackSpec)) embedsBackCard

/-- THE TIED CARD OF 'porterlaw10.EmbedsInner'. -/
def embedsInnerCard : Claim7 := { stood := { row := embedsInnerRow, standIns := [], harness := (true, "2421422d5d3291b2479eb86f036a9ee2adb07fb52707420c910e1f012a1b051c"), looks := false }, kinds := [], alts := [], laidByText := true, laidKinds := [.data, .data, .data, .mapped, .mapped], laidTests := true, laidLooks := .later }
def EmbedsInnerCardSaid : Prop := Claim7.holds Tryz.pinned (.plain (OpenSpec.ofChange embedsInnerSpec)) embedsInnerCard

/-- THE SECOND FORM's CARD OF 'porterlaw10.EmbedsTell'. -/
def embedsTellUptoCard : Claim7 := { stood := { row := embedsTellUptoRow, standIns := [], harness := (true, "2421422d5d3291b2479eb86f036a9ee2adb07fb52707420c910e1f012a1b051c"), looks := false }, kinds := [], alts := [], laidByText := true, laidKinds := [.data, .data, .data, .mapped, .mapped], laidTests := true, laidLooks := .later }
def EmbedsTellUptoCardSaid : Prop := Claim7.holds Tryz.pinned (.plain (OpenSpec.upto embedsTellSpec)) embedsTellUptoCard

/-- THE SECOND FORM's CARD OF 'porterlaw10.EmbedsData'. -/
def embedsDataUptoCard : Claim7 := { stood := { row := embedsDataUptoRow, standIns := [], harness := (true, "2421422d5d3291b2479eb86f036a9ee2adb07fb52707420c910e1f012a1b051c"), looks := false }, kinds := [], alts := [], laidByText := true, laidKinds := [.data, .data, .data, .mapped, .mapped], laidTests := true, laidLooks := .later }
def EmbedsDataUptoCardSaid : Prop := Claim7.holds Tryz.pinned (.plain (OpenSpec.upto embedsDataSpec)) embedsDataUptoCard

/-- THE SECOND FORM's CARD OF 'porterlaw10.EmbedsRest'. -/
def embedsRestUptoCard : Claim7 := { stood := { row := embedsRestUptoRow, standIns := [], harness := (true, "2421422d5d3291b2479eb86f036a9ee2adb07fb52707420c910e1f012a1b051c"), looks := false }, kinds := [], alts := [], laidByText := true, laidKinds := [.data, .data, .data, .mapped, .mapped], laidTests := true, laidLooks := .later }
def EmbedsRestUptoCardSaid : Prop := Claim7.holds Tryz.pinned (.plain (OpenSpec.upto embedsRestSpec)) embedsRestUptoCard

/-- THE SECOND FORM's CARD OF 'porterlaw10.EmbedsBack'. -/
def embedsBackUptoCard : Claim7 := { stood := { row := embedsBackUptoRow, standIns := [], harness := (true, "2421422d5d3291b2479eb86f036a9ee2adb07fb52707420c910e1f012a1b051c"), looks := false }, kinds := [], alts := [], laidByText := true, laidKinds := [.data, .data, .data, .mapped, .mapped], laidTests := true, laidLooks := .later }
def EmbedsBackUptoCardSaid : Prop := Claim7.holds Tryz.pinned (.plain (OpenSpec.upto embedsBackSpec)) embedsBackUptoCard

/-- THE SECOND FORM's CARD OF 'porterlaw10.EmbedsInner'. -/
def embedsInnerUptoCard : Claim7 := { stood := { row := embedsInnerUptoRow, standIns := [], harness := (true, "2421422d5d3291b2479eb86f036a9ee2adb07fb52707420c910e1f012a1b051c"), looks := false }, kinds := [], alts := [], laidByText := true, laidKinds := [.data, .data, .data, .mapped, .mapped], laidTests := true, laidLooks := .later }
def EmbedsInnerUptoCardSaid : Prop := Claim7.holds Tryz.pinned (.plain (OpenSpec.upto embedsInnerSpec)) embedsInnerUptoCard
end Rows
end Go.Proofs.YtjeaknipmdfkdaaGreatDoor
