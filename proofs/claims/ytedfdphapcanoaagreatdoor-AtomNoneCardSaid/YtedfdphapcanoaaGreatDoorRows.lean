/-
  NARROWER THAN 'FOR EVERY INPUT', by the rows' own cells (each row's printed sentence says how): AtomLasts: laid · AtomApart: laid · AtomOutside: laid · AtomPlay: laid · AtomNone: laid.
  DERIVED. THE GIVEN ROWS OF THIS SEAT. 5 by the template 'for every input the law returns true; each argument reads behind the call as it read before'; 0 by the template 'total and deterministic' (their statements: YtedfdphapcanoaaGreatDoorTotals.lean).
  GIVEN WITH THE SEED: the statements are not yours to turn. If you find one false, say at which input.
  Laid BY PROGRAM, IN A SANDBOX (cutbox-rows.mjs): the forced cells as the released guide's own fill.sh prints them over the translation b6b34f4c54c569a0… (all of the seat's roots in one cut). By AI agents, Wed Nov 11 2026. No macro, syntax, notation, axiom, sorry.
-/
import Derived.Test.YtedfdphapcanoaaGreatDoorChecked
import GoSem.Claim
import GoSem.ClaimJoined
import GoSem.ClaimMapViews
import Derived.JoinedTies
import Derived.KernelRfl
namespace Go.Proofs.YtedfdphapcanoaaGreatDoor
/- THE CELL 'sum', in the pinned program and in every row, IS THE sha256 OF THE DUMP (.gsa) THAT YtedfdphapcanoaaGreatDoorProg.lean LOADS. Nothing in Lean hashes anything: it is a label: what it is worth is what the hold of that sum in a sandbox is worth. -/
noncomputable def Tryz.pinned : Pinned := { name := "ytedfdphapcanoaagreatdoor", sum := "b6b34f4c54c569a0bb21fd5cecaafd1a3fd6b2f6268fb4a97ddb86b389239c05", checked := Tryz.checked }
namespace Rows
def none {H : Type} : Left H := { results := [], args := [] }

/- WHAT THE LISTED PACKAGE-LEVEL VARIABLES READ AS WHEN THE CALL BEGINS. Each datum BY PROGRAM (the guide's laid-datum.mjs) off the statement by which the dump's own 'gosem.cut.vars' lays the variable. In a bare row this is a premise. The card (YtedfdphapcanoaaGreatDoorCards.lean) ties it to the program's text. -/
def laid_porter_track_lasts {H : Type} : DataW H := .agg [.agg [.lit (.int .i64 0), .lit (.int .i64 0), .lit (.int .i64 0), .lit (.int .i64 0), .lit (.int .i64 0), .lit (.int .i64 0), .lit (.int .i64 0), .lit (.int .i64 0)], .agg [.lit (.int .i64 0), .lit (.int .i64 120), .lit (.int .i64 300), .lit (.int .i64 0), .lit (.int .i64 0), .lit (.int .i64 0), .lit (.int .i64 0), .lit (.int .i64 0)], .agg [.lit (.int .i64 0), .lit (.int .i64 60), .lit (.int .i64 60), .lit (.int .i64 0), .lit (.int .i64 0), .lit (.int .i64 0), .lit (.int .i64 0), .lit (.int .i64 0)], .agg [.lit (.int .i64 0), .lit (.int .i64 240), .lit (.int .i64 240), .lit (.int .i64 7440), .lit (.int .i64 240), .lit (.int .i64 240), .lit (.int .i64 240), .lit (.int .i64 240)]]
def laid_porter_icmp_kinds {H : Type} : DataW H := .map [(.int .u8 0, .lit (.int .i64 2)), (.int .u8 3, .lit (.int .i64 3)), (.int .u8 8, .lit (.int .i64 1)), (.int .u8 11, .lit (.int .i64 3)), (.int .u8 12, .lit (.int .i64 3)), (.int .u8 13, .lit (.int .i64 1)), (.int .u8 14, .lit (.int .i64 2))]
def laid_porter_tuples_words {H : Type} : DataW H := .map [(.int .u8 1, .lit (.string [105, 99, 109, 112])), (.int .u8 6, .lit (.string [116, 99, 112])), (.int .u8 17, .lit (.string [117, 100, 112]))]

/-- 'porterlaw21.AtomLasts': WHATEVER THE INPUT: true; the input reads as it did. -/
def atomLastsSpec : ChangeSpec := { name := "atomLasts", fn := fun _ => fun
  | [d1, d2] => { results := [.lit (.bool true)], args := [d1, d2] }
  | _ => none }
def atomLastsRow : OpenClaim := { program := "ytedfdphapcanoaagreatdoor", sum := "b6b34f4c54c569a0bb21fd5cecaafd1a3fd6b2f6268fb4a97ddb86b389239c05", func := "porter/porterlaw21.AtomLasts", spec := "atomLasts", inPlace := ["slices.overlaps[porter/api.Rule]", "internal/abi.NoEscape"], unfollowed := true, recurses := true, named := ["porter/icmp.kinds", "porter/tuples.words", "porter/track.lasts"], apart := false, laid := [("porter/track.lasts", laid_porter_track_lasts), ("porter/icmp.kinds", laid_porter_icmp_kinds), ("porter/tuples.words", laid_porter_tuples_words)] }
def AtomLastsSaid : Prop := atomLastsRow.holds Tryz.pinned (OpenSpec.ofChange atomLastsSpec)

/-- ITS FALSE NEIGHBOUR: 'it returns false'. Refute it at one input. -/
def atomLastsWrong : ChangeSpec := { name := "atomLasts", fn := fun _ => fun
  | [d1, d2] => { results := [.lit (.bool false)], args := [d1, d2] }
  | _ => none }
def AtomLastsWrongFalsely : Prop := atomLastsRow.holds Tryz.pinned (OpenSpec.ofChange atomLastsWrong)

/-- 'porterlaw21.AtomApart': WHATEVER THE INPUT: true; the input reads as it did. -/
def atomApartSpec : ChangeSpec := { name := "atomApart", fn := fun _ => fun
  | [d1, d2] => { results := [.lit (.bool true)], args := [d1, d2] }
  | _ => none }
def atomApartRow : OpenClaim := { program := "ytedfdphapcanoaagreatdoor", sum := "b6b34f4c54c569a0bb21fd5cecaafd1a3fd6b2f6268fb4a97ddb86b389239c05", func := "porter/porterlaw21.AtomApart", spec := "atomApart", inPlace := ["slices.overlaps[porter/api.Rule]", "internal/abi.NoEscape"], unfollowed := true, recurses := true, named := ["porter/icmp.kinds", "porter/tuples.words", "porter/track.lasts"], apart := false, laid := [("porter/track.lasts", laid_porter_track_lasts), ("porter/icmp.kinds", laid_porter_icmp_kinds), ("porter/tuples.words", laid_porter_tuples_words)] }
def AtomApartSaid : Prop := atomApartRow.holds Tryz.pinned (OpenSpec.ofChange atomApartSpec)

/-- ITS FALSE NEIGHBOUR: 'it returns false'. Refute it at one input. -/
def atomApartWrong : ChangeSpec := { name := "atomApart", fn := fun _ => fun
  | [d1, d2] => { results := [.lit (.bool false)], args := [d1, d2] }
  | _ => none }
def AtomApartWrongFalsely : Prop := atomApartRow.holds Tryz.pinned (OpenSpec.ofChange atomApartWrong)

/-- 'porterlaw21.AtomOutside': WHATEVER THE INPUT: true; the input reads as it did. -/
def atomOutsideSpec : ChangeSpec := { name := "atomOutside", fn := fun _ => fun
  | [d1, d2, d3] => { results := [.lit (.bool true)], args := [d1, d2, d3] }
  | _ => none }
def atomOutsideRow : OpenClaim := { program := "ytedfdphapcanoaagreatdoor", sum := "b6b34f4c54c569a0bb21fd5cecaafd1a3fd6b2f6268fb4a97ddb86b389239c05", func := "porter/porterlaw21.AtomOutside", spec := "atomOutside", inPlace := ["slices.overlaps[porter/api.Rule]", "internal/abi.NoEscape"], unfollowed := true, recurses := true, named := ["porter/icmp.kinds", "porter/tuples.words", "porter/track.lasts"], apart := false, laid := [("porter/track.lasts", laid_porter_track_lasts), ("porter/icmp.kinds", laid_porter_icmp_kinds), ("porter/tuples.words", laid_porter_tuples_words)] }
def AtomOutsideSaid : Prop := atomOutsideRow.holds Tryz.pinned (OpenSpec.ofChange atomOutsideSpec)

/-- ITS FALSE NEIGHBOUR: 'it returns false'. Refute it at one input. -/
def atomOutsideWrong : ChangeSpec := { name := "atomOutside", fn := fun _ => fun
  | [d1, d2, d3] => { results := [.lit (.bool false)], args := [d1, d2, d3] }
  | _ => none }
def AtomOutsideWrongFalsely : Prop := atomOutsideRow.holds Tryz.pinned (OpenSpec.ofChange atomOutsideWrong)

/-- 'porterlaw21.AtomPlay': WHATEVER THE INPUT: true; the input reads as it did. -/
def atomPlaySpec : ChangeSpec := { name := "atomPlay", fn := fun _ => fun
  | [d1, d2] => { results := [.lit (.bool true)], args := [d1, d2] }
  | _ => none }
def atomPlayRow : OpenClaim := { program := "ytedfdphapcanoaagreatdoor", sum := "b6b34f4c54c569a0bb21fd5cecaafd1a3fd6b2f6268fb4a97ddb86b389239c05", func := "porter/porterlaw21.AtomPlay", spec := "atomPlay", inPlace := ["slices.overlaps[porter/api.Rule]", "internal/abi.NoEscape"], unfollowed := true, recurses := true, named := ["porter/icmp.kinds", "porter/tuples.words", "porter/track.lasts"], apart := false, laid := [("porter/track.lasts", laid_porter_track_lasts), ("porter/icmp.kinds", laid_porter_icmp_kinds), ("porter/tuples.words", laid_porter_tuples_words)] }
def AtomPlaySaid : Prop := atomPlayRow.holds Tryz.pinned (OpenSpec.ofChange atomPlaySpec)

/-- ITS FALSE NEIGHBOUR: 'it returns false'. Refute it at one input. -/
def atomPlayWrong : ChangeSpec := { name := "atomPlay", fn := fun _ => fun
  | [d1, d2] => { results := [.lit (.bool false)], args := [d1, d2] }
  | _ => none }
def AtomPlayWrongFalsely : Prop := atomPlayRow.holds Tryz.pinned (OpenSpec.ofChange atomPlayWrong)

/-- 'porterlaw21.AtomNone': WHATEVER THE INPUT: true; the input reads as it did. -/
def atomNoneSpec : ChangeSpec := { name := "atomNone", fn := fun _ => fun
  | [d1, d2, d3] => { results := [.lit (.bool true)], args := [d1, d2, d3] }
  | _ => none }
def atomNoneRow : OpenClaim := { program := "ytedfdphapcanoaagreatdoor", sum := "b6b34f4c54c569a0bb21fd5cecaafd1a3fd6b2f6268fb4a97ddb86b389239c05", func := "porter/porterlaw21.AtomNone", spec := "atomNone", inPlace := ["internal/abi.NoEscape", "slices.overlaps[porter/api.Rule]"], unfollowed := true, recurses := true, named := ["porter/icmp.kinds", "porter/tuples.words", "porter/track.lasts"], apart := false, laid := [("porter/track.lasts", laid_porter_track_lasts), ("porter/icmp.kinds", laid_porter_icmp_kinds), ("porter/tuples.words", laid_porter_tuples_words)] }
def AtomNoneSaid : Prop := atomNoneRow.holds Tryz.pinned (OpenSpec.ofChange atomNoneSpec)

/-- ITS FALSE NEIGHBOUR: 'it returns false'. Refute it at one input. -/
def atomNoneWrong : ChangeSpec := { name := "atomNone", fn := fun _ => fun
  | [d1, d2, d3] => { results := [.lit (.bool false)], args := [d1, d2, d3] }
  | _ => none }
def AtomNoneWrongFalsely : Prop := atomNoneRow.holds Tryz.pinned (OpenSpec.ofChange atomNoneWrong)

/- THE SECOND FORM. 'bulk': how many values and letters a reading holds, each counted each time it is reached (what is shared counts as often as it is met; a slice's spare places count too). A statement '..UptoSaid' is the law's where the arguments, and the package variables that the reading takes, are together of bulk at most 1048576: NARROWER than '..Said'. Prove '..Said' where nothing that the law and all that it calls make is longer than what came in: it says more and counts as full. Else prove '..UptoSaid'. A law counts once. -/
mutual
def uptoBulk {H : Type} : DataW H → Nat
  | .lit (.string bytes) => bytes.length + 1
  | .lit _ => 1
  | .nil => 1
  | .ptr d => uptoBulk d + 1
  | .slice elems spare => uptoBulkAll elems + uptoBulkAll spare + 1
  | .agg parts => uptoBulkAll parts + 1
  | .iface _ d => uptoBulk d + 1
  | .map entries => uptoBulkEntries entries + 1
  | .held _ => 1
def uptoBulkAll {H : Type} : List (DataW H) → Nat
  | [] => 0
  | d :: r => uptoBulk d + uptoBulkAll r
def uptoBulkEntries {H : Type} : List (Lit × DataW H) → Nat
  | [] => 0
  | x :: r => uptoBulkEntry x + uptoBulkEntries r
def uptoBulkEntry {H : Type} : Lit × DataW H → Nat
  | (.string bytes, d) => bytes.length + uptoBulk d + 1
  | (_, d) => uptoBulk d + 1
 end
def uptoSmall : (H : Type) → List (DataW H) → Bool := fun _ ds => decide (uptoBulkAll ds ≤ 1048576)
def OpenSpec.upto (s : _root_.Go.ChangeSpec) : _root_.Go.OpenSpec := { _root_.Go.OpenSpec.ofChange s with cond := some uptoSmall }

/-- 'porterlaw21.AtomLasts', WHERE WHAT IT READS IS OF BULK AT MOST 1048576: true; the input reads as it did. -/
def atomLastsUptoRow : OpenClaim := { program := "ytedfdphapcanoaagreatdoor", sum := "b6b34f4c54c569a0bb21fd5cecaafd1a3fd6b2f6268fb4a97ddb86b389239c05", func := "porter/porterlaw21.AtomLasts", spec := "atomLasts", inPlace := ["slices.overlaps[porter/api.Rule]", "internal/abi.NoEscape"], unfollowed := true, recurses := true, named := ["porter/icmp.kinds", "porter/tuples.words", "porter/track.lasts"], apart := false, laid := [("porter/track.lasts", laid_porter_track_lasts), ("porter/icmp.kinds", laid_porter_icmp_kinds), ("porter/tuples.words", laid_porter_tuples_words)], narrowed := true }
def AtomLastsUptoSaid : Prop := atomLastsUptoRow.holds Tryz.pinned (OpenSpec.upto atomLastsSpec)

/-- 'porterlaw21.AtomApart', WHERE WHAT IT READS IS OF BULK AT MOST 1048576: true; the input reads as it did. -/
def atomApartUptoRow : OpenClaim := { program := "ytedfdphapcanoaagreatdoor", sum := "b6b34f4c54c569a0bb21fd5cecaafd1a3fd6b2f6268fb4a97ddb86b389239c05", func := "porter/porterlaw21.AtomApart", spec := "atomApart", inPlace := ["slices.overlaps[porter/api.Rule]", "internal/abi.NoEscape"], unfollowed := true, recurses := true, named := ["porter/icmp.kinds", "porter/tuples.words", "porter/track.lasts"], apart := false, laid := [("porter/track.lasts", laid_porter_track_lasts), ("porter/icmp.kinds", laid_porter_icmp_kinds), ("porter/tuples.words", laid_porter_tuples_words)], narrowed := true }
def AtomApartUptoSaid : Prop := atomApartUptoRow.holds Tryz.pinned (OpenSpec.upto atomApartSpec)

/-- 'porterlaw21.AtomOutside', WHERE WHAT IT READS IS OF BULK AT MOST 1048576: true; the input reads as it did. -/
def atomOutsideUptoRow : OpenClaim := { program := "ytedfdphapcanoaagreatdoor", sum := "b6b34f4c54c569a0bb21fd5cecaafd1a3fd6b2f6268fb4a97ddb86b389239c05", func := "porter/porterlaw21.AtomOutside", spec := "atomOutside", inPlace := ["slices.overlaps[porter/api.Rule]", "internal/abi.NoEscape"], unfollowed := true, recurses := true, named := ["porter/icmp.kinds", "porter/tuples.words", "porter/track.lasts"], apart := false, laid := [("porter/track.lasts", laid_porter_track_lasts), ("porter/icmp.kinds", laid_porter_icmp_kinds), ("porter/tuples.words", laid_porter_tuples_words)], narrowed := true }
def AtomOutsideUptoSaid : Prop := atomOutsideUptoRow.holds Tryz.pinned (OpenSpec.upto atomOutsideSpec)

/-- 'porterlaw21.AtomPlay', WHERE WHAT IT READS IS OF BULK AT MOST 1048576: true; the input reads as it did. -/
def atomPlayUptoRow : OpenClaim := { program := "ytedfdphapcanoaagreatdoor", sum := "b6b34f4c54c569a0bb21fd5cecaafd1a3fd6b2f6268fb4a97ddb86b389239c05", func := "porter/porterlaw21.AtomPlay", spec := "atomPlay", inPlace := ["slices.overlaps[porter/api.Rule]", "internal/abi.NoEscape"], unfollowed := true, recurses := true, named := ["porter/icmp.kinds", "porter/tuples.words", "porter/track.lasts"], apart := false, laid := [("porter/track.lasts", laid_porter_track_lasts), ("porter/icmp.kinds", laid_porter_icmp_kinds), ("porter/tuples.words", laid_porter_tuples_words)], narrowed := true }
def AtomPlayUptoSaid : Prop := atomPlayUptoRow.holds Tryz.pinned (OpenSpec.upto atomPlaySpec)

/-- 'porterlaw21.AtomNone', WHERE WHAT IT READS IS OF BULK AT MOST 1048576: true; the input reads as it did. -/
def atomNoneUptoRow : OpenClaim := { program := "ytedfdphapcanoaagreatdoor", sum := "b6b34f4c54c569a0bb21fd5cecaafd1a3fd6b2f6268fb4a97ddb86b389239c05", func := "porter/porterlaw21.AtomNone", spec := "atomNone", inPlace := ["internal/abi.NoEscape", "slices.overlaps[porter/api.Rule]"], unfollowed := true, recurses := true, named := ["porter/icmp.kinds", "porter/tuples.words", "porter/track.lasts"], apart := false, laid := [("porter/track.lasts", laid_porter_track_lasts), ("porter/icmp.kinds", laid_porter_icmp_kinds), ("porter/tuples.words", laid_porter_tuples_words)], narrowed := true }
def AtomNoneUptoSaid : Prop := atomNoneUptoRow.holds Tryz.pinned (OpenSpec.upto atomNoneSpec)

end Rows
end Go.Proofs.YtedfdphapcanoaaGreatDoor
