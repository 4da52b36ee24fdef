/-
  NARROWER THAN 'FOR EVERY INPUT', by the rows' own cells (each row's printed sentence says how): IcmpSums: laid · IcmpSeal: laid · IcmpTell: laid · IcmpBack: laid · IcmpID: laid.
  DERIVED. THE GIVEN ROWS OF THIS SEAT. 5 by the template 'for every input the law returns true; each argument reads behind the call as it read before'; 0 by the template 'total and deterministic' (their statements: YthmedjlecikbiaaDoorTotals.lean).
  GIVEN WITH THE SEED: the statements are not yours to turn. If you find one false, say at which input.
  Laid BY PROGRAM, IN A SANDBOX (cutbox-rows.mjs): the forced cells as the released guide's own fill.sh prints them over the translation 3ede91e92609b6d2… (all of the seat's roots in one cut). By AI agents, Wed Nov 11 2026. No macro, syntax, notation, axiom, sorry.
-/
import Derived.Test.YthmedjlecikbiaaDoorChecked
import GoSem.PinnedTables
import GoSem.Claim
import GoSem.ClaimJoined
import GoSem.ClaimMapViews
import Derived.JoinedTies
import Derived.KernelRfl
namespace Go.Proofs.YthmedjlecikbiaaDoor
/- THE CELL 'sum', in the pinned program and in every row, IS THE sha256 OF THE DUMP (.gsa) THAT YthmedjlecikbiaaDoorProg.lean LOADS. Nothing in Lean hashes anything: it is a label: what it is worth is what the hold of that sum in a sandbox is worth. -/
noncomputable def Tryd.pinned : Pinned := { name := "ythmedjlecikbiaadoor", sum := "3ede91e92609b6d2f0f5f361bf7cab328b8ee8f82b90dc75a8e99925ba9ba714", checked := Tryd.checked }
namespace Rows
def none {H : Type} : Left H := { results := [], args := [] }

/- WHAT THE LISTED PACKAGE-LEVEL VARIABLES READ AS WHEN THE CALL BEGINS. Each datum BY PROGRAM (the guide's laid-datum.mjs) off the statement by which the dump's own 'gosem.cut.vars' lays the variable. In a bare row this is a premise. The card (YthmedjlecikbiaaDoorCards.lean) ties it to the program's text. -/
def laid_porter_icmp_kinds {H : Type} : DataW H := .map [(.int .u8 0, .lit (.int .i64 2)), (.int .u8 3, .lit (.int .i64 3)), (.int .u8 8, .lit (.int .i64 1)), (.int .u8 11, .lit (.int .i64 3)), (.int .u8 12, .lit (.int .i64 3)), (.int .u8 13, .lit (.int .i64 1)), (.int .u8 14, .lit (.int .i64 2))]
def laid_unicode_utf8_acceptRanges {H : Type} : DataW H := .agg [.agg [.lit (.int .u8 128), .lit (.int .u8 191)], .agg [.lit (.int .u8 160), .lit (.int .u8 191)], .agg [.lit (.int .u8 128), .lit (.int .u8 159)], .agg [.lit (.int .u8 144), .lit (.int .u8 191)], .agg [.lit (.int .u8 128), .lit (.int .u8 143)], .agg [.lit (.int .u8 0), .lit (.int .u8 0)], .agg [.lit (.int .u8 0), .lit (.int .u8 0)], .agg [.lit (.int .u8 0), .lit (.int .u8 0)], .agg [.lit (.int .u8 0), .lit (.int .u8 0)], .agg [.lit (.int .u8 0), .lit (.int .u8 0)], .agg [.lit (.int .u8 0), .lit (.int .u8 0)], .agg [.lit (.int .u8 0), .lit (.int .u8 0)], .agg [.lit (.int .u8 0), .lit (.int .u8 0)], .agg [.lit (.int .u8 0), .lit (.int .u8 0)], .agg [.lit (.int .u8 0), .lit (.int .u8 0)], .agg [.lit (.int .u8 0), .lit (.int .u8 0)]]
/-- One of Go's own tables, pinned by name: the form's constant. -/
def laid_unicode_utf8_first : DataW Unit := Go.Pinned.utf8First

/-- 'porterlaw07.IcmpSums': WHATEVER THE INPUT: true; the input reads as it did. -/
def icmpSumsSpec : ChangeSpec := { name := "icmpSums", fn := fun _ => fun
  | [d] => { results := [.lit (.bool true)], args := [d] }
  | _ => none }
def icmpSumsRow : OpenClaim := { program := "ythmedjlecikbiaadoor", sum := "3ede91e92609b6d2f0f5f361bf7cab328b8ee8f82b90dc75a8e99925ba9ba714", func := "porter/porterlaw07.IcmpSums", spec := "icmpSums", inPlace := ["internal/abi.NoEscape"], unfollowed := true, recurses := true, named := ["porter/icmp.kinds"], apart := false, laid := [("porter/icmp.kinds", laid_porter_icmp_kinds)] }
def IcmpSumsSaid : Prop := icmpSumsRow.holds Tryd.pinned (OpenSpec.ofChange icmpSumsSpec)

/-- ITS FALSE NEIGHBOUR: 'it returns false'. Refute it at one input. -/
def icmpSumsWrong : ChangeSpec := { name := "icmpSums", fn := fun _ => fun
  | [d] => { results := [.lit (.bool false)], args := [d] }
  | _ => none }
def IcmpSumsWrongFalsely : Prop := icmpSumsRow.holds Tryd.pinned (OpenSpec.ofChange icmpSumsWrong)

/-- 'porterlaw07.IcmpSeal': WHATEVER THE INPUT: true; the input reads as it did. -/
def icmpSealSpec : ChangeSpec := { name := "icmpSeal", fn := fun _ => fun
  | [d1, d2] => { results := [.lit (.bool true)], args := [d1, d2] }
  | _ => none }
def icmpSealRow : OpenClaim := { program := "ythmedjlecikbiaadoor", sum := "3ede91e92609b6d2f0f5f361bf7cab328b8ee8f82b90dc75a8e99925ba9ba714", func := "porter/porterlaw07.IcmpSeal", spec := "icmpSeal", inPlace := ["internal/abi.NoEscape"], unfollowed := true, recurses := true, named := ["porter/icmp.kinds"], apart := false, laid := [("porter/icmp.kinds", laid_porter_icmp_kinds)] }
def IcmpSealSaid : Prop := icmpSealRow.holds Tryd.pinned (OpenSpec.ofChange icmpSealSpec)

/-- ITS FALSE NEIGHBOUR: 'it returns false'. Refute it at one input. -/
def icmpSealWrong : ChangeSpec := { name := "icmpSeal", fn := fun _ => fun
  | [d1, d2] => { results := [.lit (.bool false)], args := [d1, d2] }
  | _ => none }
def IcmpSealWrongFalsely : Prop := icmpSealRow.holds Tryd.pinned (OpenSpec.ofChange icmpSealWrong)

/-- 'porterlaw07.IcmpTell': WHATEVER THE INPUT: true; the input reads as it did. -/
def icmpTellSpec : ChangeSpec := { name := "icmpTell", fn := fun _ => fun
  | [d1, d2, d3] => { results := [.lit (.bool true)], args := [d1, d2, d3] }
  | _ => none }
def icmpTellRow : OpenClaim := { program := "ythmedjlecikbiaadoor", sum := "3ede91e92609b6d2f0f5f361bf7cab328b8ee8f82b90dc75a8e99925ba9ba714", func := "porter/porterlaw07.IcmpTell", spec := "icmpTell", inPlace := ["internal/abi.NoEscape"], unfollowed := true, recurses := true, named := ["porter/icmp.kinds"], apart := false, laid := [("porter/icmp.kinds", laid_porter_icmp_kinds)] }
def IcmpTellSaid : Prop := icmpTellRow.holds Tryd.pinned (OpenSpec.ofChange icmpTellSpec)

/-- ITS FALSE NEIGHBOUR: 'it returns false'. Refute it at one input. -/
def icmpTellWrong : ChangeSpec := { name := "icmpTell", fn := fun _ => fun
  | [d1, d2, d3] => { results := [.lit (.bool false)], args := [d1, d2, d3] }
  | _ => none }
def IcmpTellWrongFalsely : Prop := icmpTellRow.holds Tryd.pinned (OpenSpec.ofChange icmpTellWrong)

/-- 'porterlaw07.IcmpBack': WHATEVER THE INPUT: true; the input reads as it did. -/
def icmpBackSpec : ChangeSpec := { name := "icmpBack", fn := fun _ => fun
  | [d1, d2, d3] => { results := [.lit (.bool true)], args := [d1, d2, d3] }
  | _ => none }
def icmpBackRow : OpenClaim := { program := "ythmedjlecikbiaadoor", sum := "3ede91e92609b6d2f0f5f361bf7cab328b8ee8f82b90dc75a8e99925ba9ba714", func := "porter/porterlaw07.IcmpBack", spec := "icmpBack", inPlace := ["internal/abi.NoEscape"], unfollowed := true, recurses := true, named := ["porter/icmp.kinds"], apart := false, laid := [("porter/icmp.kinds", laid_porter_icmp_kinds)] }
def IcmpBackSaid : Prop := icmpBackRow.holds Tryd.pinned (OpenSpec.ofChange icmpBackSpec)

/-- ITS FALSE NEIGHBOUR: 'it returns false'. Refute it at one input. -/
def icmpBackWrong : ChangeSpec := { name := "icmpBack", fn := fun _ => fun
  | [d1, d2, d3] => { results := [.lit (.bool false)], args := [d1, d2, d3] }
  | _ => none }
def IcmpBackWrongFalsely : Prop := icmpBackRow.holds Tryd.pinned (OpenSpec.ofChange icmpBackWrong)

/-- 'porterlaw07.IcmpID': WHATEVER THE INPUT: true; the input reads as it did. -/
def icmpIDSpec : ChangeSpec := { name := "icmpID", fn := fun _ => fun
  | [d1, d2, d3] => { results := [.lit (.bool true)], args := [d1, d2, d3] }
  | _ => none }
def icmpIDRow : OpenClaim := { program := "ythmedjlecikbiaadoor", sum := "3ede91e92609b6d2f0f5f361bf7cab328b8ee8f82b90dc75a8e99925ba9ba714", func := "porter/porterlaw07.IcmpID", spec := "icmpID", inPlace := ["internal/abi.NoEscape", "internal/bytealg.IndexByteString", "internal/bytealg.IndexString"], unfollowed := true, recurses := true, named := ["porter/icmp.kinds", "unicode/utf8.first", "unicode/utf8.acceptRanges", "internal/bytealg.MaxLen"], apart := false, laid := [("unicode/utf8.acceptRanges", laid_unicode_utf8_acceptRanges), ("porter/icmp.kinds", laid_porter_icmp_kinds), ("unicode/utf8.first", laid_unicode_utf8_first)] }
def IcmpIDSaid : Prop := icmpIDRow.holds Tryd.pinned (OpenSpec.ofChange icmpIDSpec)

/-- ITS FALSE NEIGHBOUR: 'it returns false'. Refute it at one input. -/
def icmpIDWrong : ChangeSpec := { name := "icmpID", fn := fun _ => fun
  | [d1, d2, d3] => { results := [.lit (.bool false)], args := [d1, d2, d3] }
  | _ => none }
def IcmpIDWrongFalsely : Prop := icmpIDRow.holds Tryd.pinned (OpenSpec.ofChange icmpIDWrong)

/- THE SECOND FORM. 'bulk': how many values and letters a reading holds, each counted each time it is reached (what is shared counts as often as it is met; a slice's spare places count too). A statement '..UptoSaid' is the law's where the arguments, and the package variables that the reading takes, are together of bulk at most 1048576: NARROWER than '..Said'. Prove '..Said' where nothing that the law and all that it calls make is longer than what came in: it says more and counts as full. Else prove '..UptoSaid'. A law counts once. -/
mutual
def uptoBulk {H : Type} : DataW H → Nat
  | .lit (.string bytes) => bytes.length + 1
  | .lit _ => 1
  | .nil => 1
  | .ptr d => uptoBulk d + 1
  | .slice elems spare => uptoBulkAll elems + uptoBulkAll spare + 1
  | .agg parts => uptoBulkAll parts + 1
  | .iface _ d => uptoBulk d + 1
  | .map entries => uptoBulkEntries entries + 1
  | .held _ => 1
def uptoBulkAll {H : Type} : List (DataW H) → Nat
  | [] => 0
  | d :: r => uptoBulk d + uptoBulkAll r
def uptoBulkEntries {H : Type} : List (Lit × DataW H) → Nat
  | [] => 0
  | x :: r => uptoBulkEntry x + uptoBulkEntries r
def uptoBulkEntry {H : Type} : Lit × DataW H → Nat
  | (.string bytes, d) => bytes.length + uptoBulk d + 1
  | (_, d) => uptoBulk d + 1
 end
def uptoSmall : (H : Type) → List (DataW H) → Bool := fun _ ds => decide (uptoBulkAll ds ≤ 1048576)
def OpenSpec.upto (s : _root_.Go.ChangeSpec) : _root_.Go.OpenSpec := { _root_.Go.OpenSpec.ofChange s with cond := some uptoSmall }

/-- 'porterlaw07.IcmpSums', WHERE WHAT IT READS IS OF BULK AT MOST 1048576: true; the input reads as it did. -/
def icmpSumsUptoRow : OpenClaim := { program := "ythmedjlecikbiaadoor", sum := "3ede91e92609b6d2f0f5f361bf7cab328b8ee8f82b90dc75a8e99925ba9ba714", func := "porter/porterlaw07.IcmpSums", spec := "icmpSums", inPlace := ["internal/abi.NoEscape"], unfollowed := true, recurses := true, named := ["porter/icmp.kinds"], apart := false, laid := [("porter/icmp.kinds", laid_porter_icmp_kinds)], narrowed := true }
def IcmpSumsUptoSaid : Prop := icmpSumsUptoRow.holds Tryd.pinned (OpenSpec.upto icmpSumsSpec)

/-- 'porterlaw07.IcmpSeal', WHERE WHAT IT READS IS OF BULK AT MOST 1048576: true; the input reads as it did. -/
def icmpSealUptoRow : OpenClaim := { program := "ythmedjlecikbiaadoor", sum := "3ede91e92609b6d2f0f5f361bf7cab328b8ee8f82b90dc75a8e99925ba9ba714", func := "porter/porterlaw07.IcmpSeal", spec := "icmpSeal", inPlace := ["internal/abi.NoEscape"], unfollowed := true, recurses := true, named := ["porter/icmp.kinds"], apart := false, laid := [("porter/icmp.kinds", laid_porter_icmp_kinds)], narrowed := true }
def IcmpSealUptoSaid : Prop := icmpSealUptoRow.holds Tryd.pinned (OpenSpec.upto icmpSealSpec)

/-- 'porterlaw07.IcmpTell', WHERE WHAT IT READS IS OF BULK AT MOST 1048576: true; the input reads as it did. -/
def icmpTellUptoRow : OpenClaim := { program := "ythmedjlecikbiaadoor", sum := "3ede91e92609b6d2f0f5f361bf7cab328b8ee8f82b90dc75a8e99925ba9ba714", func := "porter/porterlaw07.IcmpTell", spec := "icmpTell", inPlace := ["internal/abi.NoEscape"], unfollowed := true, recurses := true, named := ["porter/icmp.kinds"], apart := false, laid := [("porter/icmp.kinds", laid_porter_icmp_kinds)], narrowed := true }
def IcmpTellUptoSaid : Prop := icmpTellUptoRow.holds Tryd.pinned (OpenSpec.upto icmpTellSpec)

/-- 'porterlaw07.IcmpBack', WHERE WHAT IT READS IS OF BULK AT MOST 1048576: true; the input reads as it did. -/
def icmpBackUptoRow : OpenClaim := { program := "ythmedjlecikbiaadoor", sum := "3ede91e92609b6d2f0f5f361bf7cab328b8ee8f82b90dc75a8e99925ba9ba714", func := "porter/porterlaw07.IcmpBack", spec := "icmpBack", inPlace := ["internal/abi.NoEscape"], unfollowed := true, recurses := true, named := ["porter/icmp.kinds"], apart := false, laid := [("porter/icmp.kinds", laid_porter_icmp_kinds)], narrowed := true }
def IcmpBackUptoSaid : Prop := icmpBackUptoRow.holds Tryd.pinned (OpenSpec.upto icmpBackSpec)

/-- 'porterlaw07.IcmpID', WHERE WHAT IT READS IS OF BULK AT MOST 1048576: true; the input reads as it did. -/
def icmpIDUptoRow : OpenClaim := { program := "ythmedjlecikbiaadoor", sum := "3ede91e92609b6d2f0f5f361bf7cab328b8ee8f82b90dc75a8e99925ba9ba714", func := "porter/porterlaw07.IcmpID", spec := "icmpID", inPlace := ["internal/abi.NoEscape", "internal/bytealg.IndexByteString", "internal/bytealg.IndexString"], unfollowed := true, recurses := true, named := ["porter/icmp.kinds", "unicode/utf8.first", "unicode/utf8.acceptRanges", "internal/bytealg.MaxLen"], apart := false, laid := [("unicode/utf8.acceptRanges", laid_unicode_utf8_acceptRanges), ("porter/icmp.kinds", laid_porter_icmp_kinds), ("unicode/utf8.first", laid_unicode_utf8_first)], narrowed := true }
def IcmpIDUptoSaid : Prop := icmpIDUptoRow.holds Tryd.pinned (OpenSpec.upto icmpIDSpec)

end Rows
end Go.Proofs.YthmedjlecikbiaaDoor
