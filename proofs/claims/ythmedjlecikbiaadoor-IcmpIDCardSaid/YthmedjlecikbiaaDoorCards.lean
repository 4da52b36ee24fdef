/-
  DERIVED. GIVEN WITH THE SEED: THE CARDS: each row of YthmedjlecikbiaaDoorRows.lean that lists a variable, with what it lists TIED to the program's text (the seventh form; the later family's looks); each row that meets fmt, with fmt's text TOLD by the authors' own Lean function (tested against real Go, not proved from fmt's source: count such statements apart). THE CARD IS WHAT COUNTS. Prove the row's statement (the work); the ties are given (YthmedjlecikbiaaDoorTie.lean); close each card by the builder's one call (the guide's Derived/Test/ToyasCard.lean, 'card_holds'). Laid BY PROGRAM, IN A SANDBOX (cutbox-door.mjs). By AI agents, Wed Nov 11 2026. No macro, syntax, notation, axiom, sorry.
-/
import Derived.Test.YthmedjlecikbiaaDoorRows
import GoSem.ClaimSeven
namespace Go.Proofs.YthmedjlecikbiaaDoor
namespace Rows

/-- THE TIED CARD OF 'porterlaw07.IcmpSums'. -/
def icmpSumsCard : Claim7 := { stood := { row := icmpSumsRow, standIns := [], harness := (true, "a5d784970eb26833d50931556fda7b4f959591984007579dbfb47a7191906102"), looks := false }, kinds := [], alts := [], laidByText := true, laidKinds := [.mapped], laidTests := true, laidLooks := .later }
def IcmpSumsCardSaid : Prop := Claim7.holds Tryd.pinned (.plain (OpenSpec.ofChange icmpSumsSpec)) icmpSumsCard

/-- THE TIED CARD OF 'porterlaw07.IcmpSeal'. -/
def icmpSealCard : Claim7 := { stood := { row := icmpSealRow, standIns := [], harness := (true, "a5d784970eb26833d50931556fda7b4f959591984007579dbfb47a7191906102"), looks := false }, kinds := [], alts := [], laidByText := true, laidKinds := [.mapped], laidTests := true, laidLooks := .later }
def IcmpSealCardSaid : Prop := Claim7.holds Tryd.pinned (.plain (OpenSpec.ofChange icmpSealSpec)) icmpSealCard

/-- THE TIED CARD OF 'porterlaw07.IcmpTell'. -/
def icmpTellCard : Claim7 := { stood := { row := icmpTellRow, standIns := [], harness := (true, "a5d784970eb26833d50931556fda7b4f959591984007579dbfb47a7191906102"), looks := false }, kinds := [], alts := [], laidByText := true, laidKinds := [.mapped], laidTests := true, laidLooks := .later }
def IcmpTellCardSaid : Prop := Claim7.holds Tryd.pinned (.plain (OpenSpec.ofChange icmpTellSpec)) icmpTellCard

/-- THE TIED CARD OF 'porterlaw07.IcmpBack'. -/
def icmpBackCard : Claim7 := { stood := { row := icmpBackRow, standIns := [], harness := (true, "a5d784970eb26833d50931556fda7b4f959591984007579dbfb47a7191906102"), looks := false }, kinds := [], alts := [], laidByText := true, laidKinds := [.mapped], laidTests := true, laidLooks := .later }
def IcmpBackCardSaid : Prop := Claim7.holds Tryd.pinned (.plain (OpenSpec.ofChange icmpBackSpec)) icmpBackCard

/-- THE TIED CARD OF 'porterlaw07.IcmpID'. -/
def icmpIDCard : Claim7 := { stood := { row := icmpIDRow, standIns := [], harness := (true, "a5d784970eb26833d50931556fda7b4f959591984007579dbfb47a7191906102"), looks := false }, kinds := [], alts := [], laidByText := true, laidKinds := [.data, .mapped, .pinned], laidTests := true, laidLooks := .later }
def IcmpIDCardSaid : Prop := Claim7.holds Tryd.pinned (.plain (OpenSpec.ofChange icmpIDSpec)) icmpIDCard

/-- THE SECOND FORM's CARD OF 'porterlaw07.IcmpSums'. -/
def icmpSumsUptoCard : Claim7 := { stood := { row := icmpSumsUptoRow, standIns := [], harness := (true, "a5d784970eb26833d50931556fda7b4f959591984007579dbfb47a7191906102"), looks := false }, kinds := [], alts := [], laidByText := true, laidKinds := [.mapped], laidTests := true, laidLooks := .later }
def IcmpSumsUptoCardSaid : Prop := Claim7.holds Tryd.pinned (.plain (OpenSpec.upto icmpSumsSpec)) icmpSumsUptoCard

/-- THE SECOND FORM's CARD OF 'porterlaw07.IcmpSeal'. -/
def icmpSealUptoCard : Claim7 := { stood := { row := icmpSealUptoRow, standIns := [], harness := (true, "a5d784970eb26833d50931556fda7b4f959591984007579dbfb47a7191906102"), looks := false }, kinds := [], alts := [], laidByText := true, laidKinds := [.mapped], laidTests := true, laidLooks := .later }
def IcmpSealUptoCardSaid : Prop := Claim7.holds Tryd.pinned (.plain (OpenSpec.upto icmpSealSpec)) icmpSealUptoCard

/-- THE SECOND FORM's CARD OF 'porterlaw07.IcmpTell'. -/
def icmpTellUptoCard : Claim7 := { stood := { row := icmpTellUptoRow, standIns := [], harness := (true, "a5d784970eb26833d50931556fda7b4f959591984007579dbfb47a7191906102"), looks := false }, kinds := [], alts := [], laidByText := true, laidKinds := [.mapped], laidTests := true, laidLooks := .later }
def IcmpTellUptoCardSaid : Prop := Claim7.holds Tryd.pinned (.plain (OpenSpec.upto icmpTellSpec)) icmpTellUptoCard

/-- THE SECOND FORM's CARD OF 'porterlaw07.IcmpBack'. -/
def icmpBackUptoCard : Claim7 := { stood := { row := icmpBackUptoRow, standIns := [], harness := (true, "a5d784970eb26833d50931556fda7b4f959591984007579dbfb47a7191906102"), looks := false }, kinds := [], alts := [], laidByText := true, laidKinds := [.mapped], laidTests := true, laidLooks := .later }
def IcmpBackUptoCardSaid : Prop := Claim7.holds Tryd.pinned (.plain (OpenSpec.upto icmpBackSpec)) icmpBackUptoCard

/-- THE SECOND FORM's CARD OF 'porterlaw07.IcmpID'. -/
def icmpIDUptoCard : Claim7 := { stood := { row := icmpIDUptoRow, standIns := [], harness := (true, "a5d784970eb26833d50931556fda7b4f959591984007579dbfb47a7191906102"), looks := false }, kinds := [], alts := [], laidByText := true, laidKinds := [.data, .mapped, .pinned], laidTests := true, laidLooks := .later }
def IcmpIDUptoCardSaid : Prop := Claim7.holds Tryd.pinned (.plain (OpenSpec.upto icmpIDSpec)) icmpIDUptoCard
end Rows
end Go.Proofs.YthmedjlecikbiaaDoor
