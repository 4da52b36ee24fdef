/-
  No cell of these rows narrows 'for every input' (looked for: loops, veiled, ifaces, maps, wideKeys, modest, calm, conditions, laid).
  DERIVED. THE GIVEN ROWS OF THIS SEAT. 11 by the template 'for every input the law returns true; each argument reads behind the call as it read before'; 0 by the template 'total and deterministic' (their statements: YtcghhnehmddoeaaTotals.lean).
  GIVEN WITH THE SEED: the statements are not yours to turn. If you find one false, say at which input.
  Laid BY PROGRAM, IN A SANDBOX (cutbox-rows.mjs): the forced cells as the released guide's own fill.sh prints them over the translation 9141440e09eda98a… (all of the seat's roots in one cut). By AI agents, Wed Nov 11 2026. No macro, syntax, notation, axiom, sorry.
-/
import Derived.Test.YtcghhnehmddoeaaChecked
import GoSem.Claim
import GoSem.ClaimJoined
import GoSem.ClaimMapViews
import Derived.JoinedTies
import Derived.KernelRfl
namespace Go.Proofs.Ytcghhnehmddoeaa
/- THE CELL 'sum', in the pinned program and in every row, IS THE sha256 OF THE DUMP (.gsa) THAT YtcghhnehmddoeaaProg.lean LOADS. Nothing in Lean hashes anything: it is a label: what it is worth is what the hold of that sum in a sandbox is worth. -/
noncomputable def Try.pinned : Pinned := { name := "ytcghhnehmddoeaa", sum := "9141440e09eda98aaf4483b886b66aa59682c8a325624ed1ad485bbb9f5bc83e", checked := Try.checked }
namespace Rows
def none {H : Type} : Left H := { results := [], args := [] }

/-- 'porterlaw02.SumsTell': WHATEVER THE INPUT: true; the input reads as it did. -/
def sumsTellSpec : ChangeSpec := { name := "sumsTell", fn := fun _ => fun
  | [d1, d2, d3] => { results := [.lit (.bool true)], args := [d1, d2, d3] }
  | _ => none }
def sumsTellRow : OpenClaim := { program := "ytcghhnehmddoeaa", sum := "9141440e09eda98aaf4483b886b66aa59682c8a325624ed1ad485bbb9f5bc83e", func := "porter/porterlaw02.SumsTell", spec := "sumsTell", unfollowed := true, recurses := true, apart := false }
def SumsTellSaid : Prop := sumsTellRow.holds Try.pinned (OpenSpec.ofChange sumsTellSpec)

/-- ITS FALSE NEIGHBOUR: 'it returns false'. Refute it at one input. -/
def sumsTellWrong : ChangeSpec := { name := "sumsTell", fn := fun _ => fun
  | [d1, d2, d3] => { results := [.lit (.bool false)], args := [d1, d2, d3] }
  | _ => none }
def SumsTellWrongFalsely : Prop := sumsTellRow.holds Try.pinned (OpenSpec.ofChange sumsTellWrong)

/-- 'porterlaw02.SumsUpdates': WHATEVER THE INPUT: true; the input reads as it did. -/
def sumsUpdatesSpec : ChangeSpec := { name := "sumsUpdates", fn := fun _ => fun
  | [d1, d2, d3] => { results := [.lit (.bool true)], args := [d1, d2, d3] }
  | _ => none }
def sumsUpdatesRow : OpenClaim := { program := "ytcghhnehmddoeaa", sum := "9141440e09eda98aaf4483b886b66aa59682c8a325624ed1ad485bbb9f5bc83e", func := "porter/porterlaw02.SumsUpdates", spec := "sumsUpdates", unfollowed := true, recurses := true, apart := false }
def SumsUpdatesSaid : Prop := sumsUpdatesRow.holds Try.pinned (OpenSpec.ofChange sumsUpdatesSpec)

/-- ITS FALSE NEIGHBOUR: 'it returns false'. Refute it at one input. -/
def sumsUpdatesWrong : ChangeSpec := { name := "sumsUpdates", fn := fun _ => fun
  | [d1, d2, d3] => { results := [.lit (.bool false)], args := [d1, d2, d3] }
  | _ => none }
def SumsUpdatesWrongFalsely : Prop := sumsUpdatesRow.holds Try.pinned (OpenSpec.ofChange sumsUpdatesWrong)

/-- 'porterlaw01.FieldsTell': WHATEVER THE INPUT: true; the input reads as it did. -/
def fieldsTellSpec : ChangeSpec := { name := "fieldsTell", fn := fun _ => fun
  | [d1, d2, d3] => { results := [.lit (.bool true)], args := [d1, d2, d3] }
  | _ => none }
def fieldsTellRow : OpenClaim := { program := "ytcghhnehmddoeaa", sum := "9141440e09eda98aaf4483b886b66aa59682c8a325624ed1ad485bbb9f5bc83e", func := "porter/porterlaw01.FieldsTell", spec := "fieldsTell", inPlace := ["internal/abi.NoEscape"], apart := false }
def FieldsTellSaid : Prop := fieldsTellRow.holds Try.pinned (OpenSpec.ofChange fieldsTellSpec)

/-- ITS FALSE NEIGHBOUR: 'it returns false'. Refute it at one input. -/
def fieldsTellWrong : ChangeSpec := { name := "fieldsTell", fn := fun _ => fun
  | [d1, d2, d3] => { results := [.lit (.bool false)], args := [d1, d2, d3] }
  | _ => none }
def FieldsTellWrongFalsely : Prop := fieldsTellRow.holds Try.pinned (OpenSpec.ofChange fieldsTellWrong)

/-- 'porterlaw01.FieldsPut': WHATEVER THE INPUT: true; the input reads as it did. -/
def fieldsPutSpec : ChangeSpec := { name := "fieldsPut", fn := fun _ => fun
  | [d1, d2, d3] => { results := [.lit (.bool true)], args := [d1, d2, d3] }
  | _ => none }
def fieldsPutRow : OpenClaim := { program := "ytcghhnehmddoeaa", sum := "9141440e09eda98aaf4483b886b66aa59682c8a325624ed1ad485bbb9f5bc83e", func := "porter/porterlaw01.FieldsPut", spec := "fieldsPut", inPlace := ["internal/abi.NoEscape"], apart := false }
def FieldsPutSaid : Prop := fieldsPutRow.holds Try.pinned (OpenSpec.ofChange fieldsPutSpec)

/-- ITS FALSE NEIGHBOUR: 'it returns false'. Refute it at one input. -/
def fieldsPutWrong : ChangeSpec := { name := "fieldsPut", fn := fun _ => fun
  | [d1, d2, d3] => { results := [.lit (.bool false)], args := [d1, d2, d3] }
  | _ => none }
def FieldsPutWrongFalsely : Prop := fieldsPutRow.holds Try.pinned (OpenSpec.ofChange fieldsPutWrong)

/-- 'porterlaw01.FieldsBack': WHATEVER THE INPUT: true; the input reads as it did. -/
def fieldsBackSpec : ChangeSpec := { name := "fieldsBack", fn := fun _ => fun
  | [d1, d2, d3] => { results := [.lit (.bool true)], args := [d1, d2, d3] }
  | _ => none }
def fieldsBackRow : OpenClaim := { program := "ytcghhnehmddoeaa", sum := "9141440e09eda98aaf4483b886b66aa59682c8a325624ed1ad485bbb9f5bc83e", func := "porter/porterlaw01.FieldsBack", spec := "fieldsBack", inPlace := ["internal/abi.NoEscape"], apart := false }
def FieldsBackSaid : Prop := fieldsBackRow.holds Try.pinned (OpenSpec.ofChange fieldsBackSpec)

/-- ITS FALSE NEIGHBOUR: 'it returns false'. Refute it at one input. -/
def fieldsBackWrong : ChangeSpec := { name := "fieldsBack", fn := fun _ => fun
  | [d1, d2, d3] => { results := [.lit (.bool false)], args := [d1, d2, d3] }
  | _ => none }
def FieldsBackWrongFalsely : Prop := fieldsBackRow.holds Try.pinned (OpenSpec.ofChange fieldsBackWrong)

/-- 'porterlaw01.FieldsWith': WHATEVER THE INPUT: true; the input reads as it did. -/
def fieldsWithSpec : ChangeSpec := { name := "fieldsWith", fn := fun _ => fun
  | [d1, d2, d3] => { results := [.lit (.bool true)], args := [d1, d2, d3] }
  | _ => none }
def fieldsWithRow : OpenClaim := { program := "ytcghhnehmddoeaa", sum := "9141440e09eda98aaf4483b886b66aa59682c8a325624ed1ad485bbb9f5bc83e", func := "porter/porterlaw01.FieldsWith", spec := "fieldsWith", inPlace := ["internal/abi.NoEscape"], apart := false }
def FieldsWithSaid : Prop := fieldsWithRow.holds Try.pinned (OpenSpec.ofChange fieldsWithSpec)

/-- ITS FALSE NEIGHBOUR: 'it returns false'. Refute it at one input. -/
def fieldsWithWrong : ChangeSpec := { name := "fieldsWith", fn := fun _ => fun
  | [d1, d2, d3] => { results := [.lit (.bool false)], args := [d1, d2, d3] }
  | _ => none }
def FieldsWithWrongFalsely : Prop := fieldsWithRow.holds Try.pinned (OpenSpec.ofChange fieldsWithWrong)

/-- 'porterlaw12.HashesUnlike': WHATEVER THE INPUT: true; the input reads as it did. -/
def hashesUnlikeSpec : ChangeSpec := { name := "hashesUnlike", fn := fun _ => fun
  | [d1, d2, d3] => { results := [.lit (.bool true)], args := [d1, d2, d3] }
  | _ => none }
def hashesUnlikeRow : OpenClaim := { program := "ytcghhnehmddoeaa", sum := "9141440e09eda98aaf4483b886b66aa59682c8a325624ed1ad485bbb9f5bc83e", func := "porter/porterlaw12.HashesUnlike", spec := "hashesUnlike", inPlace := ["internal/abi.NoEscape"], unfollowed := true, recurses := true, apart := false }
def HashesUnlikeSaid : Prop := hashesUnlikeRow.holds Try.pinned (OpenSpec.ofChange hashesUnlikeSpec)

/-- ITS FALSE NEIGHBOUR: 'it returns false'. Refute it at one input. -/
def hashesUnlikeWrong : ChangeSpec := { name := "hashesUnlike", fn := fun _ => fun
  | [d1, d2, d3] => { results := [.lit (.bool false)], args := [d1, d2, d3] }
  | _ => none }
def HashesUnlikeWrongFalsely : Prop := hashesUnlikeRow.holds Try.pinned (OpenSpec.ofChange hashesUnlikeWrong)

/-- 'porterlaw12.HashesTell': WHATEVER THE INPUT: true; the input reads as it did. -/
def hashesTellSpec : ChangeSpec := { name := "hashesTell", fn := fun _ => fun
  | [d1, d2, d3] => { results := [.lit (.bool true)], args := [d1, d2, d3] }
  | _ => none }
def hashesTellRow : OpenClaim := { program := "ytcghhnehmddoeaa", sum := "9141440e09eda98aaf4483b886b66aa59682c8a325624ed1ad485bbb9f5bc83e", func := "porter/porterlaw12.HashesTell", spec := "hashesTell", inPlace := ["internal/abi.NoEscape"], unfollowed := true, recurses := true, apart := false }
def HashesTellSaid : Prop := hashesTellRow.holds Try.pinned (OpenSpec.ofChange hashesTellSpec)

/-- ITS FALSE NEIGHBOUR: 'it returns false'. Refute it at one input. -/
def hashesTellWrong : ChangeSpec := { name := "hashesTell", fn := fun _ => fun
  | [d1, d2, d3] => { results := [.lit (.bool false)], args := [d1, d2, d3] }
  | _ => none }
def HashesTellWrongFalsely : Prop := hashesTellRow.holds Try.pinned (OpenSpec.ofChange hashesTellWrong)

/-- 'porterlaw12.HashesRange': WHATEVER THE INPUT: true; the input reads as it did. -/
def hashesRangeSpec : ChangeSpec := { name := "hashesRange", fn := fun _ => fun
  | [d1, d2, d3] => { results := [.lit (.bool true)], args := [d1, d2, d3] }
  | _ => none }
def hashesRangeRow : OpenClaim := { program := "ytcghhnehmddoeaa", sum := "9141440e09eda98aaf4483b886b66aa59682c8a325624ed1ad485bbb9f5bc83e", func := "porter/porterlaw12.HashesRange", spec := "hashesRange", inPlace := ["internal/abi.NoEscape"], unfollowed := true, recurses := true, apart := false }
def HashesRangeSaid : Prop := hashesRangeRow.holds Try.pinned (OpenSpec.ofChange hashesRangeSpec)

/-- ITS FALSE NEIGHBOUR: 'it returns false'. Refute it at one input. -/
def hashesRangeWrong : ChangeSpec := { name := "hashesRange", fn := fun _ => fun
  | [d1, d2, d3] => { results := [.lit (.bool false)], args := [d1, d2, d3] }
  | _ => none }
def HashesRangeWrongFalsely : Prop := hashesRangeRow.holds Try.pinned (OpenSpec.ofChange hashesRangeWrong)

/-- 'porterlaw02.SumsOrder': WHATEVER THE INPUT: true; the input reads as it did. -/
def sumsOrderSpec : ChangeSpec := { name := "sumsOrder", fn := fun _ => fun
  | [d1, d2] => { results := [.lit (.bool true)], args := [d1, d2] }
  | _ => none }
def sumsOrderRow : OpenClaim := { program := "ytcghhnehmddoeaa", sum := "9141440e09eda98aaf4483b886b66aa59682c8a325624ed1ad485bbb9f5bc83e", func := "porter/porterlaw02.SumsOrder", spec := "sumsOrder", inPlace := ["internal/abi.NoEscape"], unfollowed := true, recurses := true, apart := false }
def SumsOrderSaid : Prop := sumsOrderRow.holds Try.pinned (OpenSpec.ofChange sumsOrderSpec)

/-- ITS FALSE NEIGHBOUR: 'it returns false'. Refute it at one input. -/
def sumsOrderWrong : ChangeSpec := { name := "sumsOrder", fn := fun _ => fun
  | [d1, d2] => { results := [.lit (.bool false)], args := [d1, d2] }
  | _ => none }
def SumsOrderWrongFalsely : Prop := sumsOrderRow.holds Try.pinned (OpenSpec.ofChange sumsOrderWrong)

/-- 'porterlaw02.SumsNew': WHATEVER THE INPUT: true; the input reads as it did. -/
def sumsNewSpec : ChangeSpec := { name := "sumsNew", fn := fun _ => fun
  | [d1, d2, d3] => { results := [.lit (.bool true)], args := [d1, d2, d3] }
  | _ => none }
def sumsNewRow : OpenClaim := { program := "ytcghhnehmddoeaa", sum := "9141440e09eda98aaf4483b886b66aa59682c8a325624ed1ad485bbb9f5bc83e", func := "porter/porterlaw02.SumsNew", spec := "sumsNew", inPlace := ["internal/abi.NoEscape"], unfollowed := true, recurses := true, apart := false }
def SumsNewSaid : Prop := sumsNewRow.holds Try.pinned (OpenSpec.ofChange sumsNewSpec)

/-- ITS FALSE NEIGHBOUR: 'it returns false'. Refute it at one input. -/
def sumsNewWrong : ChangeSpec := { name := "sumsNew", fn := fun _ => fun
  | [d1, d2, d3] => { results := [.lit (.bool false)], args := [d1, d2, d3] }
  | _ => none }
def SumsNewWrongFalsely : Prop := sumsNewRow.holds Try.pinned (OpenSpec.ofChange sumsNewWrong)

/- THE SECOND FORM. 'bulk': how many values and letters a reading holds, each counted each time it is reached (what is shared counts as often as it is met; a slice's spare places count too). A statement '..UptoSaid' is the law's where the arguments, and the package variables that the reading takes, are together of bulk at most 1048576: NARROWER than '..Said'. Prove '..Said' where nothing that the law and all that it calls make is longer than what came in: it says more and counts as full. Else prove '..UptoSaid'. A law counts once. -/
mutual
def uptoBulk {H : Type} : DataW H → Nat
  | .lit (.string bytes) => bytes.length + 1
  | .lit _ => 1
  | .nil => 1
  | .ptr d => uptoBulk d + 1
  | .slice elems spare => uptoBulkAll elems + uptoBulkAll spare + 1
  | .agg parts => uptoBulkAll parts + 1
  | .iface _ d => uptoBulk d + 1
  | .map entries => uptoBulkEntries entries + 1
  | .held _ => 1
def uptoBulkAll {H : Type} : List (DataW H) → Nat
  | [] => 0
  | d :: r => uptoBulk d + uptoBulkAll r
def uptoBulkEntries {H : Type} : List (Lit × DataW H) → Nat
  | [] => 0
  | x :: r => uptoBulkEntry x + uptoBulkEntries r
def uptoBulkEntry {H : Type} : Lit × DataW H → Nat
  | (.string bytes, d) => bytes.length + uptoBulk d + 1
  | (_, d) => uptoBulk d + 1
 end
def uptoSmall : (H : Type) → List (DataW H) → Bool := fun _ ds => decide (uptoBulkAll ds ≤ 1048576)
def OpenSpec.upto (s : _root_.Go.ChangeSpec) : _root_.Go.OpenSpec := { _root_.Go.OpenSpec.ofChange s with cond := some uptoSmall }

/-- 'porterlaw02.SumsTell', WHERE WHAT IT READS IS OF BULK AT MOST 1048576: true; the input reads as it did. -/
def sumsTellUptoRow : OpenClaim := { program := "ytcghhnehmddoeaa", sum := "9141440e09eda98aaf4483b886b66aa59682c8a325624ed1ad485bbb9f5bc83e", func := "porter/porterlaw02.SumsTell", spec := "sumsTell", unfollowed := true, recurses := true, apart := false, narrowed := true }
def SumsTellUptoSaid : Prop := sumsTellUptoRow.holds Try.pinned (OpenSpec.upto sumsTellSpec)

/-- 'porterlaw02.SumsUpdates', WHERE WHAT IT READS IS OF BULK AT MOST 1048576: true; the input reads as it did. -/
def sumsUpdatesUptoRow : OpenClaim := { program := "ytcghhnehmddoeaa", sum := "9141440e09eda98aaf4483b886b66aa59682c8a325624ed1ad485bbb9f5bc83e", func := "porter/porterlaw02.SumsUpdates", spec := "sumsUpdates", unfollowed := true, recurses := true, apart := false, narrowed := true }
def SumsUpdatesUptoSaid : Prop := sumsUpdatesUptoRow.holds Try.pinned (OpenSpec.upto sumsUpdatesSpec)

/-- 'porterlaw01.FieldsTell', WHERE WHAT IT READS IS OF BULK AT MOST 1048576: true; the input reads as it did. -/
def fieldsTellUptoRow : OpenClaim := { program := "ytcghhnehmddoeaa", sum := "9141440e09eda98aaf4483b886b66aa59682c8a325624ed1ad485bbb9f5bc83e", func := "porter/porterlaw01.FieldsTell", spec := "fieldsTell", inPlace := ["internal/abi.NoEscape"], apart := false, narrowed := true }
def FieldsTellUptoSaid : Prop := fieldsTellUptoRow.holds Try.pinned (OpenSpec.upto fieldsTellSpec)

/-- 'porterlaw01.FieldsPut', WHERE WHAT IT READS IS OF BULK AT MOST 1048576: true; the input reads as it did. -/
def fieldsPutUptoRow : OpenClaim := { program := "ytcghhnehmddoeaa", sum := "9141440e09eda98aaf4483b886b66aa59682c8a325624ed1ad485bbb9f5bc83e", func := "porter/porterlaw01.FieldsPut", spec := "fieldsPut", inPlace := ["internal/abi.NoEscape"], apart := false, narrowed := true }
def FieldsPutUptoSaid : Prop := fieldsPutUptoRow.holds Try.pinned (OpenSpec.upto fieldsPutSpec)

/-- 'porterlaw01.FieldsBack', WHERE WHAT IT READS IS OF BULK AT MOST 1048576: true; the input reads as it did. -/
def fieldsBackUptoRow : OpenClaim := { program := "ytcghhnehmddoeaa", sum := "9141440e09eda98aaf4483b886b66aa59682c8a325624ed1ad485bbb9f5bc83e", func := "porter/porterlaw01.FieldsBack", spec := "fieldsBack", inPlace := ["internal/abi.NoEscape"], apart := false, narrowed := true }
def FieldsBackUptoSaid : Prop := fieldsBackUptoRow.holds Try.pinned (OpenSpec.upto fieldsBackSpec)

/-- 'porterlaw01.FieldsWith', WHERE WHAT IT READS IS OF BULK AT MOST 1048576: true; the input reads as it did. -/
def fieldsWithUptoRow : OpenClaim := { program := "ytcghhnehmddoeaa", sum := "9141440e09eda98aaf4483b886b66aa59682c8a325624ed1ad485bbb9f5bc83e", func := "porter/porterlaw01.FieldsWith", spec := "fieldsWith", inPlace := ["internal/abi.NoEscape"], apart := false, narrowed := true }
def FieldsWithUptoSaid : Prop := fieldsWithUptoRow.holds Try.pinned (OpenSpec.upto fieldsWithSpec)

/-- 'porterlaw12.HashesUnlike', WHERE WHAT IT READS IS OF BULK AT MOST 1048576: true; the input reads as it did. -/
def hashesUnlikeUptoRow : OpenClaim := { program := "ytcghhnehmddoeaa", sum := "9141440e09eda98aaf4483b886b66aa59682c8a325624ed1ad485bbb9f5bc83e", func := "porter/porterlaw12.HashesUnlike", spec := "hashesUnlike", inPlace := ["internal/abi.NoEscape"], unfollowed := true, recurses := true, apart := false, narrowed := true }
def HashesUnlikeUptoSaid : Prop := hashesUnlikeUptoRow.holds Try.pinned (OpenSpec.upto hashesUnlikeSpec)

/-- 'porterlaw12.HashesTell', WHERE WHAT IT READS IS OF BULK AT MOST 1048576: true; the input reads as it did. -/
def hashesTellUptoRow : OpenClaim := { program := "ytcghhnehmddoeaa", sum := "9141440e09eda98aaf4483b886b66aa59682c8a325624ed1ad485bbb9f5bc83e", func := "porter/porterlaw12.HashesTell", spec := "hashesTell", inPlace := ["internal/abi.NoEscape"], unfollowed := true, recurses := true, apart := false, narrowed := true }
def HashesTellUptoSaid : Prop := hashesTellUptoRow.holds Try.pinned (OpenSpec.upto hashesTellSpec)

/-- 'porterlaw12.HashesRange', WHERE WHAT IT READS IS OF BULK AT MOST 1048576: true; the input reads as it did. -/
def hashesRangeUptoRow : OpenClaim := { program := "ytcghhnehmddoeaa", sum := "9141440e09eda98aaf4483b886b66aa59682c8a325624ed1ad485bbb9f5bc83e", func := "porter/porterlaw12.HashesRange", spec := "hashesRange", inPlace := ["internal/abi.NoEscape"], unfollowed := true, recurses := true, apart := false, narrowed := true }
def HashesRangeUptoSaid : Prop := hashesRangeUptoRow.holds Try.pinned (OpenSpec.upto hashesRangeSpec)

/-- 'porterlaw02.SumsOrder', WHERE WHAT IT READS IS OF BULK AT MOST 1048576: true; the input reads as it did. -/
def sumsOrderUptoRow : OpenClaim := { program := "ytcghhnehmddoeaa", sum := "9141440e09eda98aaf4483b886b66aa59682c8a325624ed1ad485bbb9f5bc83e", func := "porter/porterlaw02.SumsOrder", spec := "sumsOrder", inPlace := ["internal/abi.NoEscape"], unfollowed := true, recurses := true, apart := false, narrowed := true }
def SumsOrderUptoSaid : Prop := sumsOrderUptoRow.holds Try.pinned (OpenSpec.upto sumsOrderSpec)

/-- 'porterlaw02.SumsNew', WHERE WHAT IT READS IS OF BULK AT MOST 1048576: true; the input reads as it did. -/
def sumsNewUptoRow : OpenClaim := { program := "ytcghhnehmddoeaa", sum := "9141440e09eda98aaf4483b886b66aa59682c8a325624ed1ad485bbb9f5bc83e", func := "porter/porterlaw02.SumsNew", spec := "sumsNew", inPlace := ["internal/abi.NoEscape"], unfollowed := true, recurses := true, apart := false, narrowed := true }
def SumsNewUptoSaid : Prop := sumsNewUptoRow.holds Try.pinned (OpenSpec.upto sumsNewSpec)

end Rows
end Go.Proofs.Ytcghhnehmddoeaa
