/-
  DERIVED. GIVEN WITH THE SEED: THE CARDS: each row of YtedfdphapcanoaaGreatDoorRows.lean that lists a variable, with what it lists TIED to the program's text (the seventh form; the later family's looks); each row that meets fmt, with fmt's text TOLD by the authors' own Lean function (tested against real Go, not proved from fmt's source: count such statements apart). THE CARD IS WHAT COUNTS. Prove the row's statement (the work); the ties are given (YtedfdphapcanoaaGreatDoorTie.lean); close each card by the builder's one call (the guide's Derived/Test/ToyasCard.lean, 'card_holds'). Laid BY PROGRAM, IN A SANDBOX (cutbox-door.mjs). By AI agents, Wed Nov 11 2026. No macro, syntax, notation, axiom, sorry.
-/
import Derived.Test.YtedfdphapcanoaaGreatDoorRows
import GoSem.ClaimSeven
namespace Go.Proofs.YtedfdphapcanoaaGreatDoor
namespace Rows

/-- THE TIED CARD OF 'porterlaw21.AtomLasts'. -/
def atomLastsCard : Claim7 := { stood := { row := atomLastsRow, standIns := [], harness := (true, "7d155e5f0bd079e83826f5d9ed44995fb6ffdf44f96bb4e774ae8bbaa214290b"), looks := false }, kinds := [], alts := [], laidByText := true, laidKinds := [.data, .mapped, .mapped], laidTests := true, laidLooks := .later }
def AtomLastsCardSaid : Prop := Claim7.holds Tryz.pinned (.plain (OpenSpec.ofChange atomLastsSpec)) atomLastsCard

/-- THE TIED CARD OF 'porterlaw21.AtomApart'. -/
def atomApartCard : Claim7 := { stood := { row := atomApartRow, standIns := [], harness := (true, "7d155e5f0bd079e83826f5d9ed44995fb6ffdf44f96bb4e774ae8bbaa214290b"), looks := false }, kinds := [], alts := [], laidByText := true, laidKinds := [.data, .mapped, .mapped], laidTests := true, laidLooks := .later }
def AtomApartCardSaid : Prop := Claim7.holds Tryz.pinned (.plain (OpenSpec.ofChange atomApartSpec)) atomApartCard

/-- THE TIED CARD OF 'porterlaw21.AtomOutside'. -/
def atomOutsideCard : Claim7 := { stood := { row := atomOutsideRow, standIns := [], harness := (true, "7d155e5f0bd079e83826f5d9ed44995fb6ffdf44f96bb4e774ae8bbaa214290b"), looks := false }, kinds := [], alts := [], laidByText := true, laidKinds := [.data, .mapped, .mapped], laidTests := true, laidLooks := .later }
def AtomOutsideCardSaid : Prop := Claim7.holds Tryz.pinned (.plain (OpenSpec.ofChange atomOutsideSpec)) atomOutsideCard

/-- THE TIED CARD OF 'porterlaw21.AtomPlay'. -/
def atomPlayCard : Claim7 := { stood := { row := atomPlayRow, standIns := [], harness := (true, "7d155e5f0bd079e83826f5d9ed44995fb6ffdf44f96bb4e774ae8bbaa214290b"), looks := false }, kinds := [], alts := [], laidByText := true, laidKinds := [.data, .mapped, .mapped], laidTests := true, laidLooks := .later }
def AtomPlayCardSaid : Prop := Claim7.holds Tryz.pinned (.plain (OpenSpec.ofChange atomPlaySpec)) atomPlayCard

/-- THE TIED CARD OF 'porterlaw21.AtomNone'. -/
def atomNoneCard : Claim7 := { stood := { row := atomNoneRow, standIns := [], harness := (true, "7d155e5f0bd079e83826f5d9ed44995fb6ffdf44f96bb4e774ae8bbaa214290b"), looks := false }, kinds := [], alts := [], laidByText := true, laidKinds := [.data, .mapped, .mapped], laidTests := true, laidLooks := .later }
def AtomNoneCardSaid : Prop := Claim7.holds Tryz.pinned (.plain (OpenSpec.ofChange atomNoneSpec)) atomNoneCard

/-- THE SECOND FORM's CARD OF 'porterlaw21.AtomLasts'. -/
def atomLastsUptoCard : Claim7 := { stood := { row := atomLastsUptoRow, standIns := [], harness := (true, "7d155e5f0bd079e83826f5d9ed44995fb6ffdf44f96bb4e774ae8bbaa214290b"), looks := false }, kinds := [], alts := [], laidByText := true, laidKinds := [.data, .mapped, .mapped], laidTests := true, laidLooks := .later }
def AtomLastsUptoCardSaid : Prop := Claim7.holds Tryz.pinned (.plain (OpenSpec.upto atomLastsSpec)) atomLastsUptoCard

/-- THE SECOND FORM's CARD OF 'porterlaw21.AtomApart'. -/
def atomApartUptoCard : Claim7 := { stood := { row := atomApartUptoRow, standIns := [], harness := (true, "7d155e5f0bd079e83826f5d9ed44995fb6ffdf44f96bb4e774ae8bbaa214290b"), looks := false }, kinds := [], alts := [], laidByText := true, laidKinds := [.data, .mapped, .mapped], laidTests := true, laidLooks := .later }
def AtomApartUptoCardSaid : Prop := Claim7.holds Tryz.pinned (.plain (OpenSpec.upto atomApartSpec)) atomApartUptoCard

/-- THE SECOND FORM's CARD OF 'porterlaw21.AtomOutside'. -/
def atomOutsideUptoCard : Claim7 := { stood := { row := atomOutsideUptoRow, standIns := [], harness := (true, "7d155e5f0bd079e83826f5d9ed44995fb6ffdf44f96bb4e774ae8bbaa214290b"), looks := false }, kinds := [], alts := [], laidByText := true, laidKinds := [.data, .mapped, .mapped], laidTests := true, laidLooks := .later }
def AtomOutsideUptoCardSaid : Prop := Claim7.holds Tryz.pinned (.plain (OpenSpec.upto atomOutsideSpec)) atomOutsideUptoCard

/-- THE SECOND FORM's CARD OF 'porterlaw21.AtomPlay'. -/
def atomPlayUptoCard : Claim7 := { stood := { row := atomPlayUptoRow, standIns := [], harness := (true, "7d155e5f0bd079e83826f5d9ed44995fb6ffdf44f96bb4e774ae8bbaa214290b"), looks := false }, kinds := [], alts := [], laidByText := true, laidKinds := [.data, .mapped, .mapped], laidTests := true, laidLooks := .later }
def AtomPlayUptoCardSaid : Prop := Claim7.holds Tryz.pinned (.plain (OpenSpec.upto atomPlaySpec)) atomPlayUptoCard

/-- THE SECOND FORM's CARD OF 'porterlaw21.AtomNone'. -/
def atomNoneUptoCard : Claim7 := { stood := { row := atomNoneUptoRow, standIns := [], harness := (true, "7d155e5f0bd079e83826f5d9ed44995fb6ffdf44f96bb4e774ae8bbaa214290b"), looks := false }, kinds := [], alts := [], laidByText := true, laidKinds := [.data, .mapped, .mapped], laidTests := true, laidLooks := .later }
def AtomNoneUptoCardSaid : Prop := Claim7.holds Tryz.pinned (.plain (OpenSpec.upto atomNoneSpec)) atomNoneUptoCard
end Rows
end Go.Proofs.YtedfdphapcanoaaGreatDoor
