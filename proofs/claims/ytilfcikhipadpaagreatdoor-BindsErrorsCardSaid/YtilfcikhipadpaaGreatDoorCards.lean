/-
  DERIVED. GIVEN WITH THE SEED: THE CARDS: each row of YtilfcikhipadpaaGreatDoorRows.lean that lists a variable, with what it lists TIED to the program's text (the seventh form; the later family's looks); each row that meets fmt, with fmt's text TOLD by the authors' own Lean function (tested against real Go, not proved from fmt's source: count such statements apart). THE CARD IS WHAT COUNTS. Prove the row's statement (the work); the ties are given (YtilfcikhipadpaaGreatDoorTie.lean); close each card by the builder's one call (the guide's Derived/Test/ToyasCard.lean, 'card_holds'). Laid BY PROGRAM, IN A SANDBOX (cutbox-door.mjs). By AI agents, Wed Nov 11 2026. No macro, syntax, notation, axiom, sorry.
-/
import Derived.Test.YtilfcikhipadpaaGreatDoorRows
import GoSem.ClaimSeven
namespace Go.Proofs.YtilfcikhipadpaaGreatDoor
namespace Rows

/-- THE TIED CARD OF 'porterlaw20.BindsSee'. -/
def bindsSeeCard : Claim7 := { stood := { row := bindsSeeRow, standIns := [], harness := (true, "57424b3d5b7c1fd5207817385a7faa19d2dfd29491bde3495b8ca2d0452cb59b"), looks := false }, kinds := [], alts := [], laidByText := true, laidKinds := [.data, .mapped], laidTests := true, laidLooks := .later }
def BindsSeeCardSaid : Prop := Claim7.holds Tryz.pinned (.plain (OpenSpec.ofChange bindsSeeSpec)) bindsSeeCard

/-- THE TIED CARD OF 'porterlaw20.BindsOf'. -/
def bindsOfCard : Claim7 := { stood := { row := bindsOfRow, standIns := [], harness := (true, "57424b3d5b7c1fd5207817385a7faa19d2dfd29491bde3495b8ca2d0452cb59b"), looks := false }, kinds := [], alts := [], laidByText := true, laidKinds := [.data, .mapped], laidTests := true, laidLooks := .later }
def BindsOfCardSaid : Prop := Claim7.holds Tryz.pinned (.plain (OpenSpec.ofChange bindsOfSpec)) bindsOfCard

/-- THE TIED CARD OF 'porterlaw20.BindsOwn'. -/
def bindsOwnCard : Claim7 := { stood := { row := bindsOwnRow, standIns := [], harness := (true, "57424b3d5b7c1fd5207817385a7faa19d2dfd29491bde3495b8ca2d0452cb59b"), looks := false }, kinds := [], alts := [], laidByText := true, laidKinds := [.data, .mapped], laidTests := true, laidLooks := .later }
def BindsOwnCardSaid : Prop := Claim7.holds Tryz.pinned (.plain (OpenSpec.ofChange bindsOwnSpec)) bindsOwnCard

/-- THE TIED CARD OF 'porterlaw20.BindsSend'. -/
def bindsSendCard : Claim7 := { stood := { row := bindsSendRow, standIns := [], harness := (true, "57424b3d5b7c1fd5207817385a7faa19d2dfd29491bde3495b8ca2d0452cb59b"), looks := false }, kinds := [], alts := [], laidByText := true, laidKinds := [.data, .mapped], laidTests := true, laidLooks := .later }
def BindsSendCardSaid : Prop := Claim7.holds Tryz.pinned (.plain (OpenSpec.ofChange bindsSendSpec)) bindsSendCard

/-- THE TIED CARD OF 'porterlaw20.BindsGoes'. -/
def bindsGoesCard : Claim7 := { stood := { row := bindsGoesRow, standIns := [], harness := (true, "57424b3d5b7c1fd5207817385a7faa19d2dfd29491bde3495b8ca2d0452cb59b"), looks := false }, kinds := [], alts := [], laidByText := true, laidKinds := [.data, .mapped, .mapped], laidTests := true, laidLooks := .later }
def BindsGoesCardSaid : Prop := Claim7.holds Tryz.pinned (.plain (OpenSpec.ofChange bindsGoesSpec)) bindsGoesCard

/-- THE TIED CARD OF 'porterlaw20.BindsErrors'. -/
def bindsErrorsCard : Claim7 := { stood := { row := bindsErrorsRow, standIns := [], harness := (true, "57424b3d5b7c1fd5207817385a7faa19d2dfd29491bde3495b8ca2d0452cb59b"), looks := false }, kinds := [], alts := [], laidByText := true, laidKinds := [.data, .mapped, .mapped], laidTests := true, laidLooks := .later }
def BindsErrorsCardSaid : Prop := Claim7.holds Tryz.pinned (.plain (OpenSpec.ofChange bindsErrorsSpec)) bindsErrorsCard

/-- THE SECOND FORM's CARD OF 'porterlaw20.BindsSee'. -/
def bindsSeeUptoCard : Claim7 := { stood := { row := bindsSeeUptoRow, standIns := [], harness := (true, "57424b3d5b7c1fd5207817385a7faa19d2dfd29491bde3495b8ca2d0452cb59b"), looks := false }, kinds := [], alts := [], laidByText := true, laidKinds := [.data, .mapped], laidTests := true, laidLooks := .later }
def BindsSeeUptoCardSaid : Prop := Claim7.holds Tryz.pinned (.plain (OpenSpec.upto bindsSeeSpec)) bindsSeeUptoCard

/-- THE SECOND FORM's CARD OF 'porterlaw20.BindsOf'. -/
def bindsOfUptoCard : Claim7 := { stood := { row := bindsOfUptoRow, standIns := [], harness := (true, "57424b3d5b7c1fd5207817385a7faa19d2dfd29491bde3495b8ca2d0452cb59b"), looks := false }, kinds := [], alts := [], laidByText := true, laidKinds := [.data, .mapped], laidTests := true, laidLooks := .later }
def BindsOfUptoCardSaid : Prop := Claim7.holds Tryz.pinned (.plain (OpenSpec.upto bindsOfSpec)) bindsOfUptoCard

/-- THE SECOND FORM's CARD OF 'porterlaw20.BindsOwn'. -/
def bindsOwnUptoCard : Claim7 := { stood := { row := bindsOwnUptoRow, standIns := [], harness := (true, "57424b3d5b7c1fd5207817385a7faa19d2dfd29491bde3495b8ca2d0452cb59b"), looks := false }, kinds := [], alts := [], laidByText := true, laidKinds := [.data, .mapped], laidTests := true, laidLooks := .later }
def BindsOwnUptoCardSaid : Prop := Claim7.holds Tryz.pinned (.plain (OpenSpec.upto bindsOwnSpec)) bindsOwnUptoCard

/-- THE SECOND FORM's CARD OF 'porterlaw20.BindsSend'. -/
def bindsSendUptoCard : Claim7 := { stood := { row := bindsSendUptoRow, standIns := [], harness := (true, "57424b3d5b7c1fd5207817385a7faa19d2dfd29491bde3495b8ca2d0452cb59b"), looks := false }, kinds := [], alts := [], laidByText := true, laidKinds := [.data, .mapped], laidTests := true, laidLooks := .later }
def BindsSendUptoCardSaid : Prop := Claim7.holds Tryz.pinned (.plain (OpenSpec.upto bindsSendSpec)) bindsSendUptoCard

/-- THE SECOND FORM's CARD OF 'porterlaw20.BindsGoes'. -/
def bindsGoesUptoCard : Claim7 := { stood := { row := bindsGoesUptoRow, standIns := [], harness := (true, "57424b3d5b7c1fd5207817385a7faa19d2dfd29491bde3495b8ca2d0452cb59b"), looks := false }, kinds := [], alts := [], laidByText := true, laidKinds := [.data, .mapped, .mapped], laidTests := true, laidLooks := .later }
def BindsGoesUptoCardSaid : Prop := Claim7.holds Tryz.pinned (.plain (OpenSpec.upto bindsGoesSpec)) bindsGoesUptoCard

/-- THE SECOND FORM's CARD OF 'porterlaw20.BindsErrors'. -/
def bindsErrorsUptoCard : Claim7 := { stood := { row := bindsErrorsUptoRow, standIns := [], harness := (true, "57424b3d5b7c1fd5207817385a7faa19d2dfd29491bde3495b8ca2d0452cb59b"), looks := false }, kinds := [], alts := [], laidByText := true, laidKinds := [.data, .mapped, .mapped], laidTests := true, laidLooks := .later }
def BindsErrorsUptoCardSaid : Prop := Claim7.holds Tryz.pinned (.plain (OpenSpec.upto bindsErrorsSpec)) bindsErrorsUptoCard
end Rows
end Go.Proofs.YtilfcikhipadpaaGreatDoor
