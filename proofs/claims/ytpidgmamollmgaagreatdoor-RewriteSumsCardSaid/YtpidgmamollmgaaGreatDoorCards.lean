/-
  DERIVED. GIVEN WITH THE SEED: THE CARDS: each row of YtpidgmamollmgaaGreatDoorRows.lean that lists a variable, with what it lists TIED to the program's text (the seventh form; the later family's looks); each row that meets fmt, with fmt's text TOLD by the authors' own Lean function (tested against real Go, not proved from fmt's source: count such statements apart). THE CARD IS WHAT COUNTS. Prove the row's statement (the work); the ties are given (YtpidgmamollmgaaGreatDoorTie.lean); close each card by the builder's one call (the guide's Derived/Test/ToyasCard.lean, 'card_holds'). Laid BY PROGRAM, IN A SANDBOX (cutbox-door.mjs). By AI agents, Wed Nov 11 2026. No macro, syntax, notation, axiom, sorry.
-/
import Derived.Test.YtpidgmamollmgaaGreatDoorRows
import GoSem.ClaimSeven
namespace Go.Proofs.YtpidgmamollmgaaGreatDoor
namespace Rows

/-- THE TIED CARD OF 'porterlaw09.RewriteTell'. -/
def rewriteTellCard : Claim7 := { stood := { row := rewriteTellRow, standIns := [], harness := (true, "e6a723b25715adc8917e0d2b6e71206f80075f42a9586528a41b1a0a16ca5fac"), looks := false }, kinds := [], alts := [], laidByText := true, laidKinds := [.data, .data, .data, .mapped, .mapped], laidTests := true, laidLooks := .later }
def RewriteTellCardSaid : Prop := Claim7.holds Tryz.pinned (.plain (OpenSpec.ofChange rewriteTellSpec)) rewriteTellCard

/-- THE TIED CARD OF 'porterlaw09.RewriteSums'. -/
def rewriteSumsCard : Claim7 := { stood := { row := rewriteSumsRow, standIns := [], harness := (true, "e6a723b25715adc8917e0d2b6e71206f80075f42a9586528a41b1a0a16ca5fac"), looks := false }, kinds := [], alts := [], laidByText := true, laidKinds := [.data, .data, .data, .data, .mapped, .mapped, .pinned], laidTests := true, laidLooks := .later }
def RewriteSumsCardSaid : Prop := Claim7.holds Tryz.pinned (.plain (OpenSpec.ofChange rewriteSumsSpec)) rewriteSumsCard

/-- THE SECOND FORM's CARD OF 'porterlaw09.RewriteTell'. -/
def rewriteTellUptoCard : Claim7 := { stood := { row := rewriteTellUptoRow, standIns := [], harness := (true, "e6a723b25715adc8917e0d2b6e71206f80075f42a9586528a41b1a0a16ca5fac"), looks := false }, kinds := [], alts := [], laidByText := true, laidKinds := [.data, .data, .data, .mapped, .mapped], laidTests := true, laidLooks := .later }
def RewriteTellUptoCardSaid : Prop := Claim7.holds Tryz.pinned (.plain (OpenSpec.upto rewriteTellSpec)) rewriteTellUptoCard

/-- THE SECOND FORM's CARD OF 'porterlaw09.RewriteSums'. -/
def rewriteSumsUptoCard : Claim7 := { stood := { row := rewriteSumsUptoRow, standIns := [], harness := (true, "e6a723b25715adc8917e0d2b6e71206f80075f42a9586528a41b1a0a16ca5fac"), looks := false }, kinds := [], alts := [], laidByText := true, laidKinds := [.data, .data, .data, .data, .mapped, .mapped, .pinned], laidTests := true, laidLooks := .later }
def RewriteSumsUptoCardSaid : Prop := Claim7.holds Tryz.pinned (.plain (OpenSpec.upto rewriteSumsSpec)) rewriteSumsUptoCard
end Rows
end Go.Proofs.YtpidgmamollmgaaGreatDoor
