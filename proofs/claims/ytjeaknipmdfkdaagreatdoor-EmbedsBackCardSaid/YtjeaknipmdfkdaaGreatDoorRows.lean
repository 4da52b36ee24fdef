/-
  NARROWER THAN 'FOR EVERY INPUT', by the rows' own cells (each row's printed sentence says how): EmbedsTell: laid · EmbedsData: laid · EmbedsRest: laid · EmbedsBack: laid · EmbedsInner: laid.
  DERIVED. THE GIVEN ROWS OF THIS SEAT. 5 by the template 'for every input the law returns true; each argument reads behind the call as it read before'; 0 by the template 'total and deterministic' (their statements: YtjeaknipmdfkdaaGreatDoorTotals.lean).
  GIVEN WITH THE SEED: the statements are not yours to turn. If you find one false, say at which input.
  Laid BY PROGRAM, IN A SANDBOX (cutbox-rows.mjs): the forced cells as the released guide's own fill.sh prints them over the translation e256fc1add445759… (all of the seat's roots in one cut). By AI agents, Wed Nov 11 2026. No macro, syntax, notation, axiom, sorry.
-/
import Derived.Test.YtjeaknipmdfkdaaGreatDoorChecked
import GoSem.Claim
import GoSem.ClaimJoined
import GoSem.ClaimMapViews
import Derived.JoinedTies
import Derived.KernelRfl
namespace Go.Proofs.YtjeaknipmdfkdaaGreatDoor
/- THE CELL 'sum', in the pinned program and in every row, IS THE sha256 OF THE DUMP (.gsa) THAT YtjeaknipmdfkdaaGreatDoorProg.lean LOADS. Nothing in Lean hashes anything: it is a label: what it is worth is what the hold of that sum in a sandbox is worth. -/
noncomputable def Tryz.pinned : Pinned := { name := "ytjeaknipmdfkdaagreatdoor", sum := "e256fc1add445759e8bfc75037c8f7d5f11ad7f3802099de6068555d6859ed2c", checked := Tryz.checked }
namespace Rows
def none {H : Type} : Left H := { results := [], args := [] }

/- WHAT THE LISTED PACKAGE-LEVEL VARIABLES READ AS WHEN THE CALL BEGINS. Each datum BY PROGRAM (the guide's laid-datum.mjs) off the statement by which the dump's own 'gosem.cut.vars' lays the variable. In a bare row this is a premise. The card (YtjeaknipmdfkdaaGreatDoorCards.lean) ties it to the program's text. -/
def laid_math_bits_deBruijn32tab {H : Type} : DataW H := .agg [.lit (.int .u8 0), .lit (.int .u8 1), .lit (.int .u8 28), .lit (.int .u8 2), .lit (.int .u8 29), .lit (.int .u8 14), .lit (.int .u8 24), .lit (.int .u8 3), .lit (.int .u8 30), .lit (.int .u8 22), .lit (.int .u8 20), .lit (.int .u8 15), .lit (.int .u8 25), .lit (.int .u8 17), .lit (.int .u8 4), .lit (.int .u8 8), .lit (.int .u8 31), .lit (.int .u8 27), .lit (.int .u8 13), .lit (.int .u8 23), .lit (.int .u8 21), .lit (.int .u8 19), .lit (.int .u8 16), .lit (.int .u8 7), .lit (.int .u8 26), .lit (.int .u8 12), .lit (.int .u8 18), .lit (.int .u8 6), .lit (.int .u8 11), .lit (.int .u8 5), .lit (.int .u8 10), .lit (.int .u8 9)]
def laid_math_bits_deBruijn64tab {H : Type} : DataW H := .agg [.lit (.int .u8 0), .lit (.int .u8 1), .lit (.int .u8 56), .lit (.int .u8 2), .lit (.int .u8 57), .lit (.int .u8 49), .lit (.int .u8 28), .lit (.int .u8 3), .lit (.int .u8 61), .lit (.int .u8 58), .lit (.int .u8 42), .lit (.int .u8 50), .lit (.int .u8 38), .lit (.int .u8 29), .lit (.int .u8 17), .lit (.int .u8 4), .lit (.int .u8 62), .lit (.int .u8 47), .lit (.int .u8 59), .lit (.int .u8 36), .lit (.int .u8 45), .lit (.int .u8 43), .lit (.int .u8 51), .lit (.int .u8 22), .lit (.int .u8 53), .lit (.int .u8 39), .lit (.int .u8 33), .lit (.int .u8 30), .lit (.int .u8 24), .lit (.int .u8 18), .lit (.int .u8 12), .lit (.int .u8 5), .lit (.int .u8 63), .lit (.int .u8 55), .lit (.int .u8 48), .lit (.int .u8 27), .lit (.int .u8 60), .lit (.int .u8 41), .lit (.int .u8 37), .lit (.int .u8 16), .lit (.int .u8 46), .lit (.int .u8 35), .lit (.int .u8 44), .lit (.int .u8 21), .lit (.int .u8 52), .lit (.int .u8 32), .lit (.int .u8 23), .lit (.int .u8 11), .lit (.int .u8 54), .lit (.int .u8 26), .lit (.int .u8 40), .lit (.int .u8 15), .lit (.int .u8 34), .lit (.int .u8 20), .lit (.int .u8 31), .lit (.int .u8 10), .lit (.int .u8 25), .lit (.int .u8 14), .lit (.int .u8 19), .lit (.int .u8 9), .lit (.int .u8 13), .lit (.int .u8 8), .lit (.int .u8 7), .lit (.int .u8 6)]
def laid_internal_strconv_uint64pow10 {H : Type} : DataW H := .agg [.lit (.int .u64 1), .lit (.int .u64 10), .lit (.int .u64 100), .lit (.int .u64 1000), .lit (.int .u64 10000), .lit (.int .u64 100000), .lit (.int .u64 1000000), .lit (.int .u64 10000000), .lit (.int .u64 100000000), .lit (.int .u64 1000000000), .lit (.int .u64 10000000000), .lit (.int .u64 100000000000), .lit (.int .u64 1000000000000), .lit (.int .u64 10000000000000), .lit (.int .u64 100000000000000), .lit (.int .u64 1000000000000000), .lit (.int .u64 10000000000000000), .lit (.int .u64 100000000000000000), .lit (.int .u64 1000000000000000000), .lit (.int .u64 10000000000000000000)]
def laid_porter_icmp_kinds {H : Type} : DataW H := .map [(.int .u8 0, .lit (.int .i64 2)), (.int .u8 3, .lit (.int .i64 3)), (.int .u8 8, .lit (.int .i64 1)), (.int .u8 11, .lit (.int .i64 3)), (.int .u8 12, .lit (.int .i64 3)), (.int .u8 13, .lit (.int .i64 1)), (.int .u8 14, .lit (.int .i64 2))]
def laid_porter_tuples_words {H : Type} : DataW H := .map [(.int .u8 1, .lit (.string [105, 99, 109, 112])), (.int .u8 6, .lit (.string [116, 99, 112])), (.int .u8 17, .lit (.string [117, 100, 112]))]

/-- 'porterlaw10.EmbedsTell': WHATEVER THE INPUT: true; the input reads as it did. -/
def embedsTellSpec : ChangeSpec := { name := "embedsTell", fn := fun _ => fun
  | [d1, d2] => { results := [.lit (.bool true)], args := [d1, d2] }
  | _ => none }
def embedsTellRow : OpenClaim := { program := "ytjeaknipmdfkdaagreatdoor", sum := "e256fc1add445759e8bfc75037c8f7d5f11ad7f3802099de6068555d6859ed2c", func := "porter/porterlaw10.EmbedsTell", spec := "embedsTell", inPlace := ["internal/abi.NoEscape", "internal/bytealg.MakeNoZero"], unfollowed := true, recurses := true, named := ["porter/icmp.kinds", "porter/tuples.words", "internal/strconv.uint64pow10", "math/bits.deBruijn32tab", "math/bits.deBruijn64tab"], apart := false, laid := [("math/bits.deBruijn32tab", laid_math_bits_deBruijn32tab), ("math/bits.deBruijn64tab", laid_math_bits_deBruijn64tab), ("internal/strconv.uint64pow10", laid_internal_strconv_uint64pow10), ("porter/icmp.kinds", laid_porter_icmp_kinds), ("porter/tuples.words", laid_porter_tuples_words)] }
def EmbedsTellSaid : Prop := embedsTellRow.holds Tryz.pinned (OpenSpec.ofChange embedsTellSpec)

/-- ITS FALSE NEIGHBOUR: 'it returns false'. Refute it at one input. -/
def embedsTellWrong : ChangeSpec := { name := "embedsTell", fn := fun _ => fun
  | [d1, d2] => { results := [.lit (.bool false)], args := [d1, d2] }
  | _ => none }
def EmbedsTellWrongFalsely : Prop := embedsTellRow.holds Tryz.pinned (OpenSpec.ofChange embedsTellWrong)

/-- 'porterlaw10.EmbedsData': WHATEVER THE INPUT: true; the input reads as it did. -/
def embedsDataSpec : ChangeSpec := { name := "embedsData", fn := fun _ => fun
  | [d1, d2] => { results := [.lit (.bool true)], args := [d1, d2] }
  | _ => none }
def embedsDataRow : OpenClaim := { program := "ytjeaknipmdfkdaagreatdoor", sum := "e256fc1add445759e8bfc75037c8f7d5f11ad7f3802099de6068555d6859ed2c", func := "porter/porterlaw10.EmbedsData", spec := "embedsData", inPlace := ["internal/abi.NoEscape", "internal/bytealg.MakeNoZero"], unfollowed := true, recurses := true, named := ["porter/icmp.kinds", "porter/tuples.words", "internal/strconv.uint64pow10", "math/bits.deBruijn32tab", "math/bits.deBruijn64tab"], apart := false, laid := [("math/bits.deBruijn32tab", laid_math_bits_deBruijn32tab), ("math/bits.deBruijn64tab", laid_math_bits_deBruijn64tab), ("internal/strconv.uint64pow10", laid_internal_strconv_uint64pow10), ("porter/icmp.kinds", laid_porter_icmp_kinds), ("porter/tuples.words", laid_porter_tuples_words)] }
def EmbedsDataSaid : Prop := embedsDataRow.holds Tryz.pinned (OpenSpec.ofChange embedsDataSpec)

/-- ITS FALSE NEIGHBOUR: 'it returns false'. Refute it at one input. -/
def embedsDataWrong : ChangeSpec := { name := "embedsData", fn := fun _ => fun
  | [d1, d2] => { results := [.lit (.bool false)], args := [d1, d2] }
  | _ => none }
def EmbedsDataWrongFalsely : Prop := embedsDataRow.holds Tryz.pinned (OpenSpec.ofChange embedsDataWrong)

/-- 'porterlaw10.EmbedsRest': WHATEVER THE INPUT: true; the input reads as it did. -/
def embedsRestSpec : ChangeSpec := { name := "embedsRest", fn := fun _ => fun
  | [d1, d2] => { results := [.lit (.bool true)], args := [d1, d2] }
  | _ => none }
def embedsRestRow : OpenClaim := { program := "ytjeaknipmdfkdaagreatdoor", sum := "e256fc1add445759e8bfc75037c8f7d5f11ad7f3802099de6068555d6859ed2c", func := "porter/porterlaw10.EmbedsRest", spec := "embedsRest", inPlace := ["internal/abi.NoEscape", "internal/bytealg.MakeNoZero"], unfollowed := true, recurses := true, named := ["porter/icmp.kinds", "porter/tuples.words", "internal/strconv.uint64pow10", "math/bits.deBruijn32tab", "math/bits.deBruijn64tab"], apart := false, laid := [("math/bits.deBruijn32tab", laid_math_bits_deBruijn32tab), ("math/bits.deBruijn64tab", laid_math_bits_deBruijn64tab), ("internal/strconv.uint64pow10", laid_internal_strconv_uint64pow10), ("porter/icmp.kinds", laid_porter_icmp_kinds), ("porter/tuples.words", laid_porter_tuples_words)] }
def EmbedsRestSaid : Prop := embedsRestRow.holds Tryz.pinned (OpenSpec.ofChange embedsRestSpec)

/-- ITS FALSE NEIGHBOUR: 'it returns false'. Refute it at one input. -/
def embedsRestWrong : ChangeSpec := { name := "embedsRest", fn := fun _ => fun
  | [d1, d2] => { results := [.lit (.bool false)], args := [d1, d2] }
  | _ => none }
def EmbedsRestWrongFalsely : Prop := embedsRestRow.holds Tryz.pinned (OpenSpec.ofChange embedsRestWrong)

/-- 'porterlaw10.EmbedsBack': WHATEVER THE INPUT: true; the input reads as it did. -/
def embedsBackSpec : ChangeSpec := { name := "embedsBack", fn := fun _ => fun
  | [d1, d2] => { results := [.lit (.bool true)], args := [d1, d2] }
  | _ => none }
def embedsBackRow : OpenClaim := { program := "ytjeaknipmdfkdaagreatdoor", sum := "e256fc1add445759e8bfc75037c8f7d5f11ad7f3802099de6068555d6859ed2c", func := "porter/porterlaw10.EmbedsBack", spec := "embedsBack", inPlace := ["internal/abi.NoEscape", "internal/bytealg.MakeNoZero"], unfollowed := true, recurses := true, named := ["porter/icmp.kinds", "porter/tuples.words", "internal/strconv.uint64pow10", "math/bits.deBruijn32tab", "math/bits.deBruijn64tab"], apart := false, laid := [("math/bits.deBruijn32tab", laid_math_bits_deBruijn32tab), ("math/bits.deBruijn64tab", laid_math_bits_deBruijn64tab), ("internal/strconv.uint64pow10", laid_internal_strconv_uint64pow10), ("porter/icmp.kinds", laid_porter_icmp_kinds), ("porter/tuples.words", laid_porter_tuples_words)] }
def EmbedsBackSaid : Prop := embedsBackRow.holds Tryz.pinned (OpenSpec.ofChange embedsBackSpec)

/-- ITS FALSE NEIGHBOUR: 'it returns false'. Refute it at one input. -/
def embedsBackWrong : ChangeSpec := { name := "embedsBack", fn := fun _ => fun
  | [d1, d2] => { results := [.lit (.bool false)], args := [d1, d2] }
  | _ => none }
def EmbedsBackWrongFalsely : Prop := embedsBackRow.holds Tryz.pinned (OpenSpec.ofChange embedsBackWrong)

/-- 'porterlaw10.EmbedsInner': WHATEVER THE INPUT: true; the input reads as it did. -/
def embedsInnerSpec : ChangeSpec := { name := "embedsInner", fn := fun _ => fun
  | [d1, d2] => { results := [.lit (.bool true)], args := [d1, d2] }
  | _ => none }
def embedsInnerRow : OpenClaim := { program := "ytjeaknipmdfkdaagreatdoor", sum := "e256fc1add445759e8bfc75037c8f7d5f11ad7f3802099de6068555d6859ed2c", func := "porter/porterlaw10.EmbedsInner", spec := "embedsInner", inPlace := ["internal/abi.NoEscape", "internal/bytealg.MakeNoZero"], unfollowed := true, recurses := true, named := ["porter/icmp.kinds", "porter/tuples.words", "internal/strconv.uint64pow10", "math/bits.deBruijn32tab", "math/bits.deBruijn64tab"], apart := false, laid := [("math/bits.deBruijn32tab", laid_math_bits_deBruijn32tab), ("math/bits.deBruijn64tab", laid_math_bits_deBruijn64tab), ("internal/strconv.uint64pow10", laid_internal_strconv_uint64pow10), ("porter/icmp.kinds", laid_porter_icmp_kinds), ("porter/tuples.words", laid_porter_tuples_words)] }
def EmbedsInnerSaid : Prop := embedsInnerRow.holds Tryz.pinned (OpenSpec.ofChange embedsInnerSpec)

/-- ITS FALSE NEIGHBOUR: 'it returns false'. Refute it at one input. -/
def embedsInnerWrong : ChangeSpec := { name := "embedsInner", fn := fun _ => fun
  | [d1, d2] => { results := [.lit (.bool false)], args := [d1, d2] }
  | _ => none }
def EmbedsInnerWrongFalsely : Prop := embedsInnerRow.holds Tryz.pinned (OpenSpec.ofChange embedsInnerWrong)

/- THE SECOND FORM. 'bulk': how many values and letters a reading holds, each counted each time it is reached (what is shared counts as often as it is met; a slice's spare places count too). A statement '..UptoSaid' is the law's where the arguments, and the package variables that the reading takes, are together of bulk at most 1048576: NARROWER than '..Said'. Prove '..Said' where nothing that the law and all that it calls make is longer than what came in: it says more and counts as full. Else prove '..UptoSaid'. A law counts once. -/
mutual
def uptoBulk {H : Type} : DataW H → Nat
  | .lit (.string bytes) => bytes.length + 1
  | .lit _ => 1
  | .nil => 1
  | .ptr d => uptoBulk d + 1
  | .slice elems spare => uptoBulkAll elems + uptoBulkAll spare + 1
  | .agg parts => uptoBulkAll parts + 1
  | .iface _ d => uptoBulk d + 1
  | .map entries => uptoBulkEntries entries + 1
  | .held _ => 1
def uptoBulkAll {H : Type} : List (DataW H) → Nat
  | [] => 0
  | d :: r => uptoBulk d + uptoBulkAll r
def uptoBulkEntries {H : Type} : List (Lit × DataW H) → Nat
  | [] => 0
  | x :: r => uptoBulkEntry x + uptoBulkEntries r
def uptoBulkEntry {H : Type} : Lit × DataW H → Nat
  | (.string bytes, d) => bytes.length + uptoBulk d + 1
  | (_, d) => uptoBulk d + 1
 end
def uptoSmall : (H : Type) → List (DataW H) → Bool := fun _ ds => decide (uptoBulkAll ds ≤ 1048576)
def OpenSpec.upto (s : _root_.Go.ChangeSpec) : _root_.Go.OpenSpec := { _root_.Go.OpenSpec.ofChange s with cond := some uptoSmall }

/-- 'porterlaw10.EmbedsTell', WHERE WHAT IT READS IS OF BULK AT MOST 1048576: true; the input reads as it did. -/
def embedsTellUptoRow : OpenClaim := { program := "ytjeaknipmdfkdaagreatdoor", sum := "e256fc1add445759e8bfc75037c8f7d5f11ad7f3802099de6068555d6859ed2c", func := "porter/porterlaw10.EmbedsTell", spec := "embedsTell", inPlace := ["internal/abi.NoEscape", "internal/bytealg.MakeNoZero"], unfollowed := true, recurses := true, named := ["porter/icmp.kinds", "porter/tuples.words", "internal/strconv.uint64pow10", "math/bits.deBruijn32tab", "math/bits.deBruijn64tab"], apart := false, laid := [("math/bits.deBruijn32tab", laid_math_bits_deBruijn32tab), ("math/bits.deBruijn64tab", laid_math_bits_deBruijn64tab), ("internal/strconv.uint64pow10", laid_internal_strconv_uint64pow10), ("porter/icmp.kinds", laid_porter_icmp_kinds), ("porter/tuples.words", laid_porter_tuples_words)], narrowed := true }
def EmbedsTellUptoSaid : Prop := embedsTellUptoRow.holds Tryz.pinned (OpenSpec.upto embedsTellSpec)

/-- 'porterlaw10.EmbedsData', WHERE WHAT IT READS IS OF BULK AT MOST 1048576: true; the input reads as it did. -/
def embedsDataUptoRow : OpenClaim := { program := "ytjeaknipmdfkdaagreatdoor", sum := "e256fc1add445759e8bfc75037c8f7d5f11ad7f3802099de6068555d6859ed2c", func := "porter/porterlaw10.EmbedsData", spec := "embedsData", inPlace := ["internal/abi.NoEscape", "internal/bytealg.MakeNoZero"], unfollowed := true, recurses := true, named := ["porter/icmp.kinds", "porter/tuples.words", "internal/strconv.uint64pow10", "math/bits.deBruijn32tab", "math/bits.deBruijn64tab"], apart := false, laid := [("math/bits.deBruijn32tab", laid_math_bits_deBruijn32tab), ("math/bits.deBruijn64tab", laid_math_bits_deBruijn64tab), ("internal/strconv.uint64pow10", laid_internal_strconv_uint64pow10), ("porter/icmp.kinds", laid_porter_icmp_kinds), ("porter/tuples.words", laid_porter_tuples_words)], narrowed := true }
def EmbedsDataUptoSaid : Prop := embedsDataUptoRow.holds Tryz.pinned (OpenSpec.upto embedsDataSpec)

/-- 'porterlaw10.EmbedsRest', WHERE WHAT IT READS IS OF BULK AT MOST 1048576: true; the input reads as it did. -/
def embedsRestUptoRow : OpenClaim := { program := "ytjeaknipmdfkdaagreatdoor", sum := "e256fc1add445759e8bfc75037c8f7d5f11ad7f3802099de6068555d6859ed2c", func := "porter/porterlaw10.EmbedsRest", spec := "embedsRest", inPlace := ["internal/abi.NoEscape", "internal/bytealg.MakeNoZero"], unfollowed := true, recurses := true, named := ["porter/icmp.kinds", "porter/tuples.words", "internal/strconv.uint64pow10", "math/bits.deBruijn32tab", "math/bits.deBruijn64tab"], apart := false, laid := [("math/bits.deBruijn32tab", laid_math_bits_deBruijn32tab), ("math/bits.deBruijn64tab", laid_math_bits_deBruijn64tab), ("internal/strconv.uint64pow10", laid_internal_strconv_uint64pow10), ("porter/icmp.kinds", laid_porter_icmp_kinds), ("porter/tuples.words", laid_porter_tuples_words)], narrowed := true }
def EmbedsRestUptoSaid : Prop := embedsRestUptoRow.holds Tryz.pinned (OpenSpec.upto embedsRestSpec)

/-- 'porterlaw10.EmbedsBack', WHERE WHAT IT READS IS OF BULK AT MOST 1048576: true; the input reads as it did. -/
def embedsBackUptoRow : OpenClaim := { program := "ytjeaknipmdfkdaagreatdoor", sum := "e256fc1add445759e8bfc75037c8f7d5f11ad7f3802099de6068555d6859ed2c", func := "porter/porterlaw10.EmbedsBack", spec := "embedsBack", inPlace := ["internal/abi.NoEscape", "internal/bytealg.MakeNoZero"], unfollowed := true, recurses := true, named := ["porter/icmp.kinds", "porter/tuples.words", "internal/strconv.uint64pow10", "math/bits.deBruijn32tab", "math/bits.deBruijn64tab"], apart := false, laid := [("math/bits.deBruijn32tab", laid_math_bits_deBruijn32tab), ("math/bits.deBruijn64tab", laid_math_bits_deBruijn64tab), ("internal/strconv.uint64pow10", laid_internal_strconv_uint64pow10), ("porter/icmp.kinds", laid_porter_icmp_kinds), ("porter/tuples.words", laid_porter_tuples_words)], narrowed := true }
def EmbedsBackUptoSaid : Prop := embedsBackUptoRow.holds Tryz.pinned (OpenSpec.upto embedsBackSpec)

/-- 'porterlaw10.EmbedsInner', WHERE WHAT IT READS IS OF BULK AT MOST 1048576: true; the input reads as it did. -/
def embedsInnerUptoRow : OpenClaim := { program := "ytjeaknipmdfkdaagreatdoor", sum := "e256fc1add445759e8bfc75037c8f7d5f11ad7f3802099de6068555d6859ed2c", func := "porter/porterlaw10.EmbedsInner", spec := "embedsInner", inPlace := ["internal/abi.NoEscape", "internal/bytealg.MakeNoZero"], unfollowed := true, recurses := true, named := ["porter/icmp.kinds", "porter/tuples.words", "internal/strconv.uint64pow10", "math/bits.deBruijn32tab", "math/bits.deBruijn64tab"], apart := false, laid := [("math/bits.deBruijn32tab", laid_math_bits_deBruijn32tab), ("math/bits.deBruijn64tab", laid_math_bits_deBruijn64tab), ("internal/strconv.uint64pow10", laid_internal_strconv_uint64pow10), ("porter/icmp.kinds", laid_porter_icmp_kinds), ("porter/tuples.words", laid_porter_tuples_words)], narrowed := true }
def EmbedsInnerUptoSaid : Prop := embedsInnerUptoRow.holds Tryz.pinned (OpenSpec.upto embedsInnerSpec)

end Rows
end Go.Proofs.YtjeaknipmdfkdaaGreatDoor
