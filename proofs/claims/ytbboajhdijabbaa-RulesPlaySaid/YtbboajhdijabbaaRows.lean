/-
  No cell of these rows narrows 'for every input' (looked for: loops, veiled, ifaces, maps, wideKeys, modest, calm, conditions, laid).
  DERIVED. THE GIVEN ROWS OF THIS SEAT. 6 by the template 'for every input the law returns true; each argument reads behind the call as it read before'; 0 by the template 'total and deterministic' (their statements: YtbboajhdijabbaaTotals.lean).
  GIVEN WITH THE SEED: the statements are not yours to turn. If you find one false, say at which input.
  Laid BY PROGRAM, IN A SANDBOX (cutbox-rows.mjs): the forced cells as the released guide's own fill.sh prints them over the translation e60483dfc9e9d5d6… (all of the seat's roots in one cut). By AI agents, Wed Nov 11 2026. No macro, syntax, notation, axiom, sorry.
-/
import Derived.Test.YtbboajhdijabbaaChecked
import GoSem.Claim
import GoSem.ClaimJoined
import GoSem.ClaimMapViews
import Derived.JoinedTies
import Derived.KernelRfl
namespace Go.Proofs.Ytbboajhdijabbaa
/- THE CELL 'sum', in the pinned program and in every row, IS THE sha256 OF THE DUMP (.gsa) THAT YtbboajhdijabbaaProg.lean LOADS. Nothing in Lean hashes anything: it is a label: what it is worth is what the hold of that sum in a sandbox is worth. -/
noncomputable def Try.pinned : Pinned := { name := "ytbboajhdijabbaa", sum := "e60483dfc9e9d5d6686fae4a252dc1b327a2dd1ae97c4a73cf43402923d8e359", checked := Try.checked }
namespace Rows
def none {H : Type} : Left H := { results := [], args := [] }

/-- 'porterlaw11.RulesNew': WHATEVER THE INPUT: true; the input reads as it did. -/
def rulesNewSpec : ChangeSpec := { name := "rulesNew", fn := fun _ => fun
  | [d1, d2, d3] => { results := [.lit (.bool true)], args := [d1, d2, d3] }
  | _ => none }
def rulesNewRow : OpenClaim := { program := "ytbboajhdijabbaa", sum := "e60483dfc9e9d5d6686fae4a252dc1b327a2dd1ae97c4a73cf43402923d8e359", func := "porter/porterlaw11.RulesNew", spec := "rulesNew", inPlace := ["slices.overlaps[porter/api.Rule]"], unfollowed := true, recurses := true, apart := false }
def RulesNewSaid : Prop := rulesNewRow.holds Try.pinned (OpenSpec.ofChange rulesNewSpec)

/-- ITS FALSE NEIGHBOUR: 'it returns false'. Refute it at one input. -/
def rulesNewWrong : ChangeSpec := { name := "rulesNew", fn := fun _ => fun
  | [d1, d2, d3] => { results := [.lit (.bool false)], args := [d1, d2, d3] }
  | _ => none }
def RulesNewWrongFalsely : Prop := rulesNewRow.holds Try.pinned (OpenSpec.ofChange rulesNewWrong)

/-- 'porterlaw11.RulesFirst': WHATEVER THE INPUT: true; the input reads as it did. -/
def rulesFirstSpec : ChangeSpec := { name := "rulesFirst", fn := fun _ => fun
  | [d1, d2] => { results := [.lit (.bool true)], args := [d1, d2] }
  | _ => none }
def rulesFirstRow : OpenClaim := { program := "ytbboajhdijabbaa", sum := "e60483dfc9e9d5d6686fae4a252dc1b327a2dd1ae97c4a73cf43402923d8e359", func := "porter/porterlaw11.RulesFirst", spec := "rulesFirst", inPlace := ["slices.overlaps[porter/api.Rule]"], unfollowed := true, recurses := true, apart := false }
def RulesFirstSaid : Prop := rulesFirstRow.holds Try.pinned (OpenSpec.ofChange rulesFirstSpec)

/-- ITS FALSE NEIGHBOUR: 'it returns false'. Refute it at one input. -/
def rulesFirstWrong : ChangeSpec := { name := "rulesFirst", fn := fun _ => fun
  | [d1, d2] => { results := [.lit (.bool false)], args := [d1, d2] }
  | _ => none }
def RulesFirstWrongFalsely : Prop := rulesFirstRow.holds Try.pinned (OpenSpec.ofChange rulesFirstWrong)

/-- 'porterlaw11.RulesBack': WHATEVER THE INPUT: true; the input reads as it did. -/
def rulesBackSpec : ChangeSpec := { name := "rulesBack", fn := fun _ => fun
  | [d1, d2, d3] => { results := [.lit (.bool true)], args := [d1, d2, d3] }
  | _ => none }
def rulesBackRow : OpenClaim := { program := "ytbboajhdijabbaa", sum := "e60483dfc9e9d5d6686fae4a252dc1b327a2dd1ae97c4a73cf43402923d8e359", func := "porter/porterlaw11.RulesBack", spec := "rulesBack", inPlace := ["slices.overlaps[porter/api.Rule]"], unfollowed := true, recurses := true, apart := false }
def RulesBackSaid : Prop := rulesBackRow.holds Try.pinned (OpenSpec.ofChange rulesBackSpec)

/-- ITS FALSE NEIGHBOUR: 'it returns false'. Refute it at one input. -/
def rulesBackWrong : ChangeSpec := { name := "rulesBack", fn := fun _ => fun
  | [d1, d2, d3] => { results := [.lit (.bool false)], args := [d1, d2, d3] }
  | _ => none }
def RulesBackWrongFalsely : Prop := rulesBackRow.holds Try.pinned (OpenSpec.ofChange rulesBackWrong)

/-- 'porterlaw11.RulesApart': WHATEVER THE INPUT: true; the input reads as it did. -/
def rulesApartSpec : ChangeSpec := { name := "rulesApart", fn := fun _ => fun
  | [d] => { results := [.lit (.bool true)], args := [d] }
  | _ => none }
def rulesApartRow : OpenClaim := { program := "ytbboajhdijabbaa", sum := "e60483dfc9e9d5d6686fae4a252dc1b327a2dd1ae97c4a73cf43402923d8e359", func := "porter/porterlaw11.RulesApart", spec := "rulesApart", inPlace := ["slices.overlaps[porter/api.Rule]"], unfollowed := true, recurses := true, apart := false }
def RulesApartSaid : Prop := rulesApartRow.holds Try.pinned (OpenSpec.ofChange rulesApartSpec)

/-- ITS FALSE NEIGHBOUR: 'it returns false'. Refute it at one input. -/
def rulesApartWrong : ChangeSpec := { name := "rulesApart", fn := fun _ => fun
  | [d] => { results := [.lit (.bool false)], args := [d] }
  | _ => none }
def RulesApartWrongFalsely : Prop := rulesApartRow.holds Try.pinned (OpenSpec.ofChange rulesApartWrong)

/-- 'porterlaw11.RulesPlay': WHATEVER THE INPUT: true; the input reads as it did. -/
def rulesPlaySpec : ChangeSpec := { name := "rulesPlay", fn := fun _ => fun
  | [d] => { results := [.lit (.bool true)], args := [d] }
  | _ => none }
def rulesPlayRow : OpenClaim := { program := "ytbboajhdijabbaa", sum := "e60483dfc9e9d5d6686fae4a252dc1b327a2dd1ae97c4a73cf43402923d8e359", func := "porter/porterlaw11.RulesPlay", spec := "rulesPlay", inPlace := ["slices.overlaps[porter/api.Rule]"], unfollowed := true, recurses := true, apart := false }
def RulesPlaySaid : Prop := rulesPlayRow.holds Try.pinned (OpenSpec.ofChange rulesPlaySpec)

/-- ITS FALSE NEIGHBOUR: 'it returns false'. Refute it at one input. -/
def rulesPlayWrong : ChangeSpec := { name := "rulesPlay", fn := fun _ => fun
  | [d] => { results := [.lit (.bool false)], args := [d] }
  | _ => none }
def RulesPlayWrongFalsely : Prop := rulesPlayRow.holds Try.pinned (OpenSpec.ofChange rulesPlayWrong)

/-- 'porterlaw11.RulesNone': WHATEVER THE INPUT: true; the input reads as it did. -/
def rulesNoneSpec : ChangeSpec := { name := "rulesNone", fn := fun _ => fun
  | [d1, d2, d3] => { results := [.lit (.bool true)], args := [d1, d2, d3] }
  | _ => none }
def rulesNoneRow : OpenClaim := { program := "ytbboajhdijabbaa", sum := "e60483dfc9e9d5d6686fae4a252dc1b327a2dd1ae97c4a73cf43402923d8e359", func := "porter/porterlaw11.RulesNone", spec := "rulesNone", inPlace := ["slices.overlaps[porter/api.Rule]"], unfollowed := true, recurses := true, apart := false }
def RulesNoneSaid : Prop := rulesNoneRow.holds Try.pinned (OpenSpec.ofChange rulesNoneSpec)

/-- ITS FALSE NEIGHBOUR: 'it returns false'. Refute it at one input. -/
def rulesNoneWrong : ChangeSpec := { name := "rulesNone", fn := fun _ => fun
  | [d1, d2, d3] => { results := [.lit (.bool false)], args := [d1, d2, d3] }
  | _ => none }
def RulesNoneWrongFalsely : Prop := rulesNoneRow.holds Try.pinned (OpenSpec.ofChange rulesNoneWrong)

/- THE SECOND FORM. 'bulk': how many values and letters a reading holds, each counted each time it is reached (what is shared counts as often as it is met; a slice's spare places count too). A statement '..UptoSaid' is the law's where the arguments, and the package variables that the reading takes, are together of bulk at most 1048576: NARROWER than '..Said'. Prove '..Said' where nothing that the law and all that it calls make is longer than what came in: it says more and counts as full. Else prove '..UptoSaid'. A law counts once. -/
mutual
def uptoBulk {H : Type} : DataW H → Nat
  | .lit (.string bytes) => bytes.length + 1
  | .lit _ => 1
  | .nil => 1
  | .ptr d => uptoBulk d + 1
  | .slice elems spare => uptoBulkAll elems + uptoBulkAll spare + 1
  | .agg parts => uptoBulkAll parts + 1
  | .iface _ d => uptoBulk d + 1
  | .map entries => uptoBulkEntries entries + 1
  | .held _ => 1
def uptoBulkAll {H : Type} : List (DataW H) → Nat
  | [] => 0
  | d :: r => uptoBulk d + uptoBulkAll r
def uptoBulkEntries {H : Type} : List (Lit × DataW H) → Nat
  | [] => 0
  | x :: r => uptoBulkEntry x + uptoBulkEntries r
def uptoBulkEntry {H : Type} : Lit × DataW H → Nat
  | (.string bytes, d) => bytes.length + uptoBulk d + 1
  | (_, d) => uptoBulk d + 1
 end
def uptoSmall : (H : Type) → List (DataW H) → Bool := fun _ ds => decide (uptoBulkAll ds ≤ 1048576)
def OpenSpec.upto (s : _root_.Go.ChangeSpec) : _root_.Go.OpenSpec := { _root_.Go.OpenSpec.ofChange s with cond := some uptoSmall }

/-- 'porterlaw11.RulesNew', WHERE WHAT IT READS IS OF BULK AT MOST 1048576: true; the input reads as it did. -/
def rulesNewUptoRow : OpenClaim := { program := "ytbboajhdijabbaa", sum := "e60483dfc9e9d5d6686fae4a252dc1b327a2dd1ae97c4a73cf43402923d8e359", func := "porter/porterlaw11.RulesNew", spec := "rulesNew", inPlace := ["slices.overlaps[porter/api.Rule]"], unfollowed := true, recurses := true, apart := false, narrowed := true }
def RulesNewUptoSaid : Prop := rulesNewUptoRow.holds Try.pinned (OpenSpec.upto rulesNewSpec)

/-- 'porterlaw11.RulesFirst', WHERE WHAT IT READS IS OF BULK AT MOST 1048576: true; the input reads as it did. -/
def rulesFirstUptoRow : OpenClaim := { program := "ytbboajhdijabbaa", sum := "e60483dfc9e9d5d6686fae4a252dc1b327a2dd1ae97c4a73cf43402923d8e359", func := "porter/porterlaw11.RulesFirst", spec := "rulesFirst", inPlace := ["slices.overlaps[porter/api.Rule]"], unfollowed := true, recurses := true, apart := false, narrowed := true }
def RulesFirstUptoSaid : Prop := rulesFirstUptoRow.holds Try.pinned (OpenSpec.upto rulesFirstSpec)

/-- 'porterlaw11.RulesBack', WHERE WHAT IT READS IS OF BULK AT MOST 1048576: true; the input reads as it did. -/
def rulesBackUptoRow : OpenClaim := { program := "ytbboajhdijabbaa", sum := "e60483dfc9e9d5d6686fae4a252dc1b327a2dd1ae97c4a73cf43402923d8e359", func := "porter/porterlaw11.RulesBack", spec := "rulesBack", inPlace := ["slices.overlaps[porter/api.Rule]"], unfollowed := true, recurses := true, apart := false, narrowed := true }
def RulesBackUptoSaid : Prop := rulesBackUptoRow.holds Try.pinned (OpenSpec.upto rulesBackSpec)

/-- 'porterlaw11.RulesApart', WHERE WHAT IT READS IS OF BULK AT MOST 1048576: true; the input reads as it did. -/
def rulesApartUptoRow : OpenClaim := { program := "ytbboajhdijabbaa", sum := "e60483dfc9e9d5d6686fae4a252dc1b327a2dd1ae97c4a73cf43402923d8e359", func := "porter/porterlaw11.RulesApart", spec := "rulesApart", inPlace := ["slices.overlaps[porter/api.Rule]"], unfollowed := true, recurses := true, apart := false, narrowed := true }
def RulesApartUptoSaid : Prop := rulesApartUptoRow.holds Try.pinned (OpenSpec.upto rulesApartSpec)

/-- 'porterlaw11.RulesPlay', WHERE WHAT IT READS IS OF BULK AT MOST 1048576: true; the input reads as it did. -/
def rulesPlayUptoRow : OpenClaim := { program := "ytbboajhdijabbaa", sum := "e60483dfc9e9d5d6686fae4a252dc1b327a2dd1ae97c4a73cf43402923d8e359", func := "porter/porterlaw11.RulesPlay", spec := "rulesPlay", inPlace := ["slices.overlaps[porter/api.Rule]"], unfollowed := true, recurses := true, apart := false, narrowed := true }
def RulesPlayUptoSaid : Prop := rulesPlayUptoRow.holds Try.pinned (OpenSpec.upto rulesPlaySpec)

/-- 'porterlaw11.RulesNone', WHERE WHAT IT READS IS OF BULK AT MOST 1048576: true; the input reads as it did. -/
def rulesNoneUptoRow : OpenClaim := { program := "ytbboajhdijabbaa", sum := "e60483dfc9e9d5d6686fae4a252dc1b327a2dd1ae97c4a73cf43402923d8e359", func := "porter/porterlaw11.RulesNone", spec := "rulesNone", inPlace := ["slices.overlaps[porter/api.Rule]"], unfollowed := true, recurses := true, apart := false, narrowed := true }
def RulesNoneUptoSaid : Prop := rulesNoneUptoRow.holds Try.pinned (OpenSpec.upto rulesNoneSpec)

end Rows
end Go.Proofs.Ytbboajhdijabbaa
