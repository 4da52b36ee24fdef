/-
  DERIVED. GIVEN WITH THE SEED: THE CARDS: each row of YtpidgmamollmgaaDoorRows.lean that lists a variable, with what it lists TIED to the program's text (the seventh form; the later family's looks); each row that meets fmt, with fmt's text TOLD by the authors' own Lean function (tested against real Go, not proved from fmt's source: count such statements apart). THE CARD IS WHAT COUNTS. Prove the row's statement (the work); the ties are given (YtpidgmamollmgaaDoorTie.lean); close each card by the builder's one call (the guide's Derived/Test/ToyasCard.lean, 'card_holds'). Laid BY PROGRAM, IN A SANDBOX (cutbox-door.mjs). By AI agents, Wed Nov 11 2026. No macro, syntax, notation, axiom, sorry.
-/
import Derived.Test.YtpidgmamollmgaaDoorRows
import GoSem.ClaimSeven
namespace Go.Proofs.YtpidgmamollmgaaDoor
namespace Rows

/-- THE TIED CARD OF 'porterlaw09.RewriteSeen'. -/
def rewriteSeenCard : Claim7 := { stood := { row := rewriteSeenRow, standIns := [], harness := (true, "84ebb468692506064e2aa7215a5508658dee12b9efd497b6c86d14b2285dc0c2"), looks := false }, kinds := [], alts := [], laidByText := true, laidKinds := [.data, .data, .data, .mapped, .mapped], laidTests := true, laidLooks := .later }
def RewriteSeenCardSaid : Prop := Claim7.holds Tryd.pinned (.plain (OpenSpec.ofChange rewriteSeenSpec)) rewriteSeenCard

/-- THE TIED CARD OF 'porterlaw09.RewriteBack'. -/
def rewriteBackCard : Claim7 := { stood := { row := rewriteBackRow, standIns := [], harness := (true, "84ebb468692506064e2aa7215a5508658dee12b9efd497b6c86d14b2285dc0c2"), looks := false }, kinds := [], alts := [], laidByText := true, laidKinds := [.data, .data, .data, .mapped, .mapped], laidTests := true, laidLooks := .later }
def RewriteBackCardSaid : Prop := Claim7.holds Tryd.pinned (.plain (OpenSpec.ofChange rewriteBackSpec)) rewriteBackCard

/-- THE TIED CARD OF 'porterlaw09.RewriteTwice'. -/
def rewriteTwiceCard : Claim7 := { stood := { row := rewriteTwiceRow, standIns := [], harness := (true, "84ebb468692506064e2aa7215a5508658dee12b9efd497b6c86d14b2285dc0c2"), looks := false }, kinds := [], alts := [], laidByText := true, laidKinds := [.data, .data, .data, .mapped, .mapped], laidTests := true, laidLooks := .later }
def RewriteTwiceCardSaid : Prop := Claim7.holds Tryd.pinned (.plain (OpenSpec.ofChange rewriteTwiceSpec)) rewriteTwiceCard

/-- THE SECOND FORM's CARD OF 'porterlaw09.RewriteSeen'. -/
def rewriteSeenUptoCard : Claim7 := { stood := { row := rewriteSeenUptoRow, standIns := [], harness := (true, "84ebb468692506064e2aa7215a5508658dee12b9efd497b6c86d14b2285dc0c2"), looks := false }, kinds := [], alts := [], laidByText := true, laidKinds := [.data, .data, .data, .mapped, .mapped], laidTests := true, laidLooks := .later }
def RewriteSeenUptoCardSaid : Prop := Claim7.holds Tryd.pinned (.plain (OpenSpec.upto rewriteSeenSpec)) rewriteSeenUptoCard

/-- THE SECOND FORM's CARD OF 'porterlaw09.RewriteBack'. -/
def rewriteBackUptoCard : Claim7 := { stood := { row := rewriteBackUptoRow, standIns := [], harness := (true, "84ebb468692506064e2aa7215a5508658dee12b9efd497b6c86d14b2285dc0c2"), looks := false }, kinds := [], alts := [], laidByText := true, laidKinds := [.data, .data, .data, .mapped, .mapped], laidTests := true, laidLooks := .later }
def RewriteBackUptoCardSaid : Prop := Claim7.holds Tryd.pinned (.plain (OpenSpec.upto rewriteBackSpec)) rewriteBackUptoCard

/-- THE SECOND FORM's CARD OF 'porterlaw09.RewriteTwice'. -/
def rewriteTwiceUptoCard : Claim7 := { stood := { row := rewriteTwiceUptoRow, standIns := [], harness := (true, "84ebb468692506064e2aa7215a5508658dee12b9efd497b6c86d14b2285dc0c2"), looks := false }, kinds := [], alts := [], laidByText := true, laidKinds := [.data, .data, .data, .mapped, .mapped], laidTests := true, laidLooks := .later }
def RewriteTwiceUptoCardSaid : Prop := Claim7.holds Tryd.pinned (.plain (OpenSpec.upto rewriteTwiceSpec)) rewriteTwiceUptoCard
end Rows
end Go.Proofs.YtpidgmamollmgaaDoor
