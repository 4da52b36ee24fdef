/-
  No cell of these rows narrows 'for every input' (looked for: loops, veiled, ifaces, maps, wideKeys, modest, calm, conditions, laid).
  DERIVED. THE GIVEN ROWS OF THIS SEAT. 10 by the template 'for every input the law returns true; each argument reads behind the call as it read before'; 0 by the template 'total and deterministic' (their statements: YtlmpoikjjidgiaaTotals.lean).
  GIVEN WITH THE SEED: the statements are not yours to turn. If you find one false, say at which input.
  Laid BY PROGRAM, IN A SANDBOX (cutbox-rows.mjs): the forced cells as the released guide's own fill.sh prints them over the translation 3776586ddb18335e… (all of the seat's roots in one cut). By AI agents, Wed Nov 11 2026. No macro, syntax, notation, axiom, sorry.
-/
import Derived.Test.YtlmpoikjjidgiaaChecked
import GoSem.Claim
import GoSem.ClaimJoined
import GoSem.ClaimMapViews
import Derived.JoinedTies
import Derived.KernelRfl
namespace Go.Proofs.Ytlmpoikjjidgiaa
/- THE CELL 'sum', in the pinned program and in every row, IS THE sha256 OF THE DUMP (.gsa) THAT YtlmpoikjjidgiaaProg.lean LOADS. Nothing in Lean hashes anything: it is a label: what it is worth is what the hold of that sum in a sandbox is worth. -/
noncomputable def Try.pinned : Pinned := { name := "ytlmpoikjjidgiaa", sum := "3776586ddb18335ed59b5f3dbf695a19e22b2b764b984738c9ecc501e02e9442", checked := Try.checked }
namespace Rows
def none {H : Type} : Left H := { results := [], args := [] }

/-- 'porterlaw06.TcpTell': WHATEVER THE INPUT: true; the input reads as it did. -/
def tcpTellSpec : ChangeSpec := { name := "tcpTell", fn := fun _ => fun
  | [d1, d2, d3] => { results := [.lit (.bool true)], args := [d1, d2, d3] }
  | _ => none }
def tcpTellRow : OpenClaim := { program := "ytlmpoikjjidgiaa", sum := "3776586ddb18335ed59b5f3dbf695a19e22b2b764b984738c9ecc501e02e9442", func := "porter/porterlaw06.TcpTell", spec := "tcpTell", inPlace := ["internal/abi.NoEscape", "internal/bytealg.MakeNoZero"], unfollowed := true, recurses := true, apart := false }
def TcpTellSaid : Prop := tcpTellRow.holds Try.pinned (OpenSpec.ofChange tcpTellSpec)

/-- ITS FALSE NEIGHBOUR: 'it returns false'. Refute it at one input. -/
def tcpTellWrong : ChangeSpec := { name := "tcpTell", fn := fun _ => fun
  | [d1, d2, d3] => { results := [.lit (.bool false)], args := [d1, d2, d3] }
  | _ => none }
def TcpTellWrongFalsely : Prop := tcpTellRow.holds Try.pinned (OpenSpec.ofChange tcpTellWrong)

/-- 'porterlaw06.TcpSums': WHATEVER THE INPUT: true; the input reads as it did. -/
def tcpSumsSpec : ChangeSpec := { name := "tcpSums", fn := fun _ => fun
  | [d1, d2, d3] => { results := [.lit (.bool true)], args := [d1, d2, d3] }
  | _ => none }
def tcpSumsRow : OpenClaim := { program := "ytlmpoikjjidgiaa", sum := "3776586ddb18335ed59b5f3dbf695a19e22b2b764b984738c9ecc501e02e9442", func := "porter/porterlaw06.TcpSums", spec := "tcpSums", inPlace := ["internal/abi.NoEscape", "internal/bytealg.MakeNoZero"], unfollowed := true, recurses := true, apart := false }
def TcpSumsSaid : Prop := tcpSumsRow.holds Try.pinned (OpenSpec.ofChange tcpSumsSpec)

/-- ITS FALSE NEIGHBOUR: 'it returns false'. Refute it at one input. -/
def tcpSumsWrong : ChangeSpec := { name := "tcpSums", fn := fun _ => fun
  | [d1, d2, d3] => { results := [.lit (.bool false)], args := [d1, d2, d3] }
  | _ => none }
def TcpSumsWrongFalsely : Prop := tcpSumsRow.holds Try.pinned (OpenSpec.ofChange tcpSumsWrong)

/-- 'porterlaw06.TcpBack': WHATEVER THE INPUT: true; the input reads as it did. -/
def tcpBackSpec : ChangeSpec := { name := "tcpBack", fn := fun _ => fun
  | [d1, d2] => { results := [.lit (.bool true)], args := [d1, d2] }
  | _ => none }
def tcpBackRow : OpenClaim := { program := "ytlmpoikjjidgiaa", sum := "3776586ddb18335ed59b5f3dbf695a19e22b2b764b984738c9ecc501e02e9442", func := "porter/porterlaw06.TcpBack", spec := "tcpBack", inPlace := ["internal/abi.NoEscape", "internal/bytealg.MakeNoZero"], unfollowed := true, recurses := true, apart := false }
def TcpBackSaid : Prop := tcpBackRow.holds Try.pinned (OpenSpec.ofChange tcpBackSpec)

/-- ITS FALSE NEIGHBOUR: 'it returns false'. Refute it at one input. -/
def tcpBackWrong : ChangeSpec := { name := "tcpBack", fn := fun _ => fun
  | [d1, d2] => { results := [.lit (.bool false)], args := [d1, d2] }
  | _ => none }
def TcpBackWrongFalsely : Prop := tcpBackRow.holds Try.pinned (OpenSpec.ofChange tcpBackWrong)

/-- 'porterlaw06.TcpSame': WHATEVER THE INPUT: true; the input reads as it did. -/
def tcpSameSpec : ChangeSpec := { name := "tcpSame", fn := fun _ => fun
  | [d] => { results := [.lit (.bool true)], args := [d] }
  | _ => none }
def tcpSameRow : OpenClaim := { program := "ytlmpoikjjidgiaa", sum := "3776586ddb18335ed59b5f3dbf695a19e22b2b764b984738c9ecc501e02e9442", func := "porter/porterlaw06.TcpSame", spec := "tcpSame", inPlace := ["internal/abi.NoEscape", "internal/bytealg.MakeNoZero"], unfollowed := true, recurses := true, apart := false }
def TcpSameSaid : Prop := tcpSameRow.holds Try.pinned (OpenSpec.ofChange tcpSameSpec)

/-- ITS FALSE NEIGHBOUR: 'it returns false'. Refute it at one input. -/
def tcpSameWrong : ChangeSpec := { name := "tcpSame", fn := fun _ => fun
  | [d] => { results := [.lit (.bool false)], args := [d] }
  | _ => none }
def TcpSameWrongFalsely : Prop := tcpSameRow.holds Try.pinned (OpenSpec.ofChange tcpSameWrong)

/-- 'porterlaw06.TcpSeal': WHATEVER THE INPUT: true; the input reads as it did. -/
def tcpSealSpec : ChangeSpec := { name := "tcpSeal", fn := fun _ => fun
  | [d1, d2, d3] => { results := [.lit (.bool true)], args := [d1, d2, d3] }
  | _ => none }
def tcpSealRow : OpenClaim := { program := "ytlmpoikjjidgiaa", sum := "3776586ddb18335ed59b5f3dbf695a19e22b2b764b984738c9ecc501e02e9442", func := "porter/porterlaw06.TcpSeal", spec := "tcpSeal", inPlace := ["internal/abi.NoEscape", "internal/bytealg.MakeNoZero"], unfollowed := true, recurses := true, apart := false }
def TcpSealSaid : Prop := tcpSealRow.holds Try.pinned (OpenSpec.ofChange tcpSealSpec)

/-- ITS FALSE NEIGHBOUR: 'it returns false'. Refute it at one input. -/
def tcpSealWrong : ChangeSpec := { name := "tcpSeal", fn := fun _ => fun
  | [d1, d2, d3] => { results := [.lit (.bool false)], args := [d1, d2, d3] }
  | _ => none }
def TcpSealWrongFalsely : Prop := tcpSealRow.holds Try.pinned (OpenSpec.ofChange tcpSealWrong)

/-- 'porterlaw04.IpParse': WHATEVER THE INPUT: true; the input reads as it did. -/
def ipParseSpec : ChangeSpec := { name := "ipParse", fn := fun _ => fun
  | [d] => { results := [.lit (.bool true)], args := [d] }
  | _ => none }
def ipParseRow : OpenClaim := { program := "ytlmpoikjjidgiaa", sum := "3776586ddb18335ed59b5f3dbf695a19e22b2b764b984738c9ecc501e02e9442", func := "porter/porterlaw04.IpParse", spec := "ipParse", inPlace := ["internal/abi.NoEscape", "internal/bytealg.MakeNoZero"], unfollowed := true, recurses := true, apart := false }
def IpParseSaid : Prop := ipParseRow.holds Try.pinned (OpenSpec.ofChange ipParseSpec)

/-- ITS FALSE NEIGHBOUR: 'it returns false'. Refute it at one input. -/
def ipParseWrong : ChangeSpec := { name := "ipParse", fn := fun _ => fun
  | [d] => { results := [.lit (.bool false)], args := [d] }
  | _ => none }
def IpParseWrongFalsely : Prop := ipParseRow.holds Try.pinned (OpenSpec.ofChange ipParseWrong)

/-- 'porterlaw04.IpPut': WHATEVER THE INPUT: true; the input reads as it did. -/
def ipPutSpec : ChangeSpec := { name := "ipPut", fn := fun _ => fun
  | [d1, d2] => { results := [.lit (.bool true)], args := [d1, d2] }
  | _ => none }
def ipPutRow : OpenClaim := { program := "ytlmpoikjjidgiaa", sum := "3776586ddb18335ed59b5f3dbf695a19e22b2b764b984738c9ecc501e02e9442", func := "porter/porterlaw04.IpPut", spec := "ipPut", inPlace := ["internal/abi.NoEscape", "internal/bytealg.MakeNoZero"], unfollowed := true, recurses := true, apart := false }
def IpPutSaid : Prop := ipPutRow.holds Try.pinned (OpenSpec.ofChange ipPutSpec)

/-- ITS FALSE NEIGHBOUR: 'it returns false'. Refute it at one input. -/
def ipPutWrong : ChangeSpec := { name := "ipPut", fn := fun _ => fun
  | [d1, d2] => { results := [.lit (.bool false)], args := [d1, d2] }
  | _ => none }
def IpPutWrongFalsely : Prop := ipPutRow.holds Try.pinned (OpenSpec.ofChange ipPutWrong)

/-- 'porterlaw04.IpBack': WHATEVER THE INPUT: true; the input reads as it did. -/
def ipBackSpec : ChangeSpec := { name := "ipBack", fn := fun _ => fun
  | [d1, d2, d3] => { results := [.lit (.bool true)], args := [d1, d2, d3] }
  | _ => none }
def ipBackRow : OpenClaim := { program := "ytlmpoikjjidgiaa", sum := "3776586ddb18335ed59b5f3dbf695a19e22b2b764b984738c9ecc501e02e9442", func := "porter/porterlaw04.IpBack", spec := "ipBack", inPlace := ["internal/abi.NoEscape", "internal/bytealg.MakeNoZero"], unfollowed := true, recurses := true, apart := false }
def IpBackSaid : Prop := ipBackRow.holds Try.pinned (OpenSpec.ofChange ipBackSpec)

/-- ITS FALSE NEIGHBOUR: 'it returns false'. Refute it at one input. -/
def ipBackWrong : ChangeSpec := { name := "ipBack", fn := fun _ => fun
  | [d1, d2, d3] => { results := [.lit (.bool false)], args := [d1, d2, d3] }
  | _ => none }
def IpBackWrongFalsely : Prop := ipBackRow.holds Try.pinned (OpenSpec.ofChange ipBackWrong)

/-- 'porterlaw04.IpSame': WHATEVER THE INPUT: true; the input reads as it did. -/
def ipSameSpec : ChangeSpec := { name := "ipSame", fn := fun _ => fun
  | [d] => { results := [.lit (.bool true)], args := [d] }
  | _ => none }
def ipSameRow : OpenClaim := { program := "ytlmpoikjjidgiaa", sum := "3776586ddb18335ed59b5f3dbf695a19e22b2b764b984738c9ecc501e02e9442", func := "porter/porterlaw04.IpSame", spec := "ipSame", inPlace := ["internal/abi.NoEscape", "internal/bytealg.MakeNoZero"], unfollowed := true, recurses := true, apart := false }
def IpSameSaid : Prop := ipSameRow.holds Try.pinned (OpenSpec.ofChange ipSameSpec)

/-- ITS FALSE NEIGHBOUR: 'it returns false'. Refute it at one input. -/
def ipSameWrong : ChangeSpec := { name := "ipSame", fn := fun _ => fun
  | [d] => { results := [.lit (.bool false)], args := [d] }
  | _ => none }
def IpSameWrongFalsely : Prop := ipSameRow.holds Try.pinned (OpenSpec.ofChange ipSameWrong)

/-- 'porterlaw04.IpSpoilt': WHATEVER THE INPUT: true; the input reads as it did. -/
def ipSpoiltSpec : ChangeSpec := { name := "ipSpoilt", fn := fun _ => fun
  | [d1, d2, d3] => { results := [.lit (.bool true)], args := [d1, d2, d3] }
  | _ => none }
def ipSpoiltRow : OpenClaim := { program := "ytlmpoikjjidgiaa", sum := "3776586ddb18335ed59b5f3dbf695a19e22b2b764b984738c9ecc501e02e9442", func := "porter/porterlaw04.IpSpoilt", spec := "ipSpoilt", inPlace := ["internal/abi.NoEscape", "internal/bytealg.MakeNoZero"], unfollowed := true, recurses := true, apart := false }
def IpSpoiltSaid : Prop := ipSpoiltRow.holds Try.pinned (OpenSpec.ofChange ipSpoiltSpec)

/-- ITS FALSE NEIGHBOUR: 'it returns false'. Refute it at one input. -/
def ipSpoiltWrong : ChangeSpec := { name := "ipSpoilt", fn := fun _ => fun
  | [d1, d2, d3] => { results := [.lit (.bool false)], args := [d1, d2, d3] }
  | _ => none }
def IpSpoiltWrongFalsely : Prop := ipSpoiltRow.holds Try.pinned (OpenSpec.ofChange ipSpoiltWrong)

/- THE SECOND FORM. 'bulk': how many values and letters a reading holds, each counted each time it is reached (what is shared counts as often as it is met; a slice's spare places count too). A statement '..UptoSaid' is the law's where the arguments, and the package variables that the reading takes, are together of bulk at most 1048576: NARROWER than '..Said'. Prove '..Said' where nothing that the law and all that it calls make is longer than what came in: it says more and counts as full. Else prove '..UptoSaid'. A law counts once. -/
mutual
def uptoBulk {H : Type} : DataW H → Nat
  | .lit (.string bytes) => bytes.length + 1
  | .lit _ => 1
  | .nil => 1
  | .ptr d => uptoBulk d + 1
  | .slice elems spare => uptoBulkAll elems + uptoBulkAll spare + 1
  | .agg parts => uptoBulkAll parts + 1
  | .iface _ d => uptoBulk d + 1
  | .map entries => uptoBulkEntries entries + 1
  | .held _ => 1
def uptoBulkAll {H : Type} : List (DataW H) → Nat
  | [] => 0
  | d :: r => uptoBulk d + uptoBulkAll r
def uptoBulkEntries {H : Type} : List (Lit × DataW H) → Nat
  | [] => 0
  | x :: r => uptoBulkEntry x + uptoBulkEntries r
def uptoBulkEntry {H : Type} : Lit × DataW H → Nat
  | (.string bytes, d) => bytes.length + uptoBulk d + 1
  | (_, d) => uptoBulk d + 1
 end
def uptoSmall : (H : Type) → List (DataW H) → Bool := fun _ ds => decide (uptoBulkAll ds ≤ 1048576)
def OpenSpec.upto (s : _root_.Go.ChangeSpec) : _root_.Go.OpenSpec := { _root_.Go.OpenSpec.ofChange s with cond := some uptoSmall }

/-- 'porterlaw06.TcpTell', WHERE WHAT IT READS IS OF BULK AT MOST 1048576: true; the input reads as it did. -/
def tcpTellUptoRow : OpenClaim := { program := "ytlmpoikjjidgiaa", sum := "3776586ddb18335ed59b5f3dbf695a19e22b2b764b984738c9ecc501e02e9442", func := "porter/porterlaw06.TcpTell", spec := "tcpTell", inPlace := ["internal/abi.NoEscape", "internal/bytealg.MakeNoZero"], unfollowed := true, recurses := true, apart := false, narrowed := true }
def TcpTellUptoSaid : Prop := tcpTellUptoRow.holds Try.pinned (OpenSpec.upto tcpTellSpec)

/-- 'porterlaw06.TcpSums', WHERE WHAT IT READS IS OF BULK AT MOST 1048576: true; the input reads as it did. -/
def tcpSumsUptoRow : OpenClaim := { program := "ytlmpoikjjidgiaa", sum := "3776586ddb18335ed59b5f3dbf695a19e22b2b764b984738c9ecc501e02e9442", func := "porter/porterlaw06.TcpSums", spec := "tcpSums", inPlace := ["internal/abi.NoEscape", "internal/bytealg.MakeNoZero"], unfollowed := true, recurses := true, apart := false, narrowed := true }
def TcpSumsUptoSaid : Prop := tcpSumsUptoRow.holds Try.pinned (OpenSpec.upto tcpSumsSpec)

/-- 'porterlaw06.TcpBack', WHERE WHAT IT READS IS OF BULK AT MOST 1048576: true; the input reads as it did. -/
def tcpBackUptoRow : OpenClaim := { program := "ytlmpoikjjidgiaa", sum := "3776586ddb18335ed59b5f3dbf695a19e22b2b764b984738c9ecc501e02e9442", func := "porter/porterlaw06.TcpBack", spec := "tcpBack", inPlace := ["internal/abi.NoEscape", "internal/bytealg.MakeNoZero"], unfollowed := true, recurses := true, apart := false, narrowed := true }
def TcpBackUptoSaid : Prop := tcpBackUptoRow.holds Try.pinned (OpenSpec.upto tcpBackSpec)

/-- 'porterlaw06.TcpSame', WHERE WHAT IT READS IS OF BULK AT MOST 1048576: true; the input reads as it did. -/
def tcpSameUptoRow : OpenClaim := { program := "ytlmpoikjjidgiaa", sum := "3776586ddb18335ed59b5f3dbf695a19e22b2b764b984738c9ecc501e02e9442", func := "porter/porterlaw06.TcpSame", spec := "tcpSame", inPlace := ["internal/abi.NoEscape", "internal/bytealg.MakeNoZero"], unfollowed := true, recurses := true, apart := false, narrowed := true }
def TcpSameUptoSaid : Prop := tcpSameUptoRow.holds Try.pinned (OpenSpec.upto tcpSameSpec)

/-- 'porterlaw06.TcpSeal', WHERE WHAT IT READS IS OF BULK AT MOST 1048576: true; the input reads as it did. -/
def tcpSealUptoRow : OpenClaim := { program := "ytlmpoikjjidgiaa", sum := "3776586ddb18335ed59b5f3dbf695a19e22b2b764b984738c9ecc501e02e9442", func := "porter/porterlaw06.TcpSeal", spec := "tcpSeal", inPlace := ["internal/abi.NoEscape", "internal/bytealg.MakeNoZero"], unfollowed := true, recurses := true, apart := false, narrowed := true }
def TcpSealUptoSaid : Prop := tcpSealUptoRow.holds Try.pinned (OpenSpec.upto tcpSealSpec)

/-- 'porterlaw04.IpParse', WHERE WHAT IT READS IS OF BULK AT MOST 1048576: true; the input reads as it did. -/
def ipParseUptoRow : OpenClaim := { program := "ytlmpoikjjidgiaa", sum := "3776586ddb18335ed59b5f3dbf695a19e22b2b764b984738c9ecc501e02e9442", func := "porter/porterlaw04.IpParse", spec := "ipParse", inPlace := ["internal/abi.NoEscape", "internal/bytealg.MakeNoZero"], unfollowed := true, recurses := true, apart := false, narrowed := true }
def IpParseUptoSaid : Prop := ipParseUptoRow.holds Try.pinned (OpenSpec.upto ipParseSpec)

/-- 'porterlaw04.IpPut', WHERE WHAT IT READS IS OF BULK AT MOST 1048576: true; the input reads as it did. -/
def ipPutUptoRow : OpenClaim := { program := "ytlmpoikjjidgiaa", sum := "3776586ddb18335ed59b5f3dbf695a19e22b2b764b984738c9ecc501e02e9442", func := "porter/porterlaw04.IpPut", spec := "ipPut", inPlace := ["internal/abi.NoEscape", "internal/bytealg.MakeNoZero"], unfollowed := true, recurses := true, apart := false, narrowed := true }
def IpPutUptoSaid : Prop := ipPutUptoRow.holds Try.pinned (OpenSpec.upto ipPutSpec)

/-- 'porterlaw04.IpBack', WHERE WHAT IT READS IS OF BULK AT MOST 1048576: true; the input reads as it did. -/
def ipBackUptoRow : OpenClaim := { program := "ytlmpoikjjidgiaa", sum := "3776586ddb18335ed59b5f3dbf695a19e22b2b764b984738c9ecc501e02e9442", func := "porter/porterlaw04.IpBack", spec := "ipBack", inPlace := ["internal/abi.NoEscape", "internal/bytealg.MakeNoZero"], unfollowed := true, recurses := true, apart := false, narrowed := true }
def IpBackUptoSaid : Prop := ipBackUptoRow.holds Try.pinned (OpenSpec.upto ipBackSpec)

/-- 'porterlaw04.IpSame', WHERE WHAT IT READS IS OF BULK AT MOST 1048576: true; the input reads as it did. -/
def ipSameUptoRow : OpenClaim := { program := "ytlmpoikjjidgiaa", sum := "3776586ddb18335ed59b5f3dbf695a19e22b2b764b984738c9ecc501e02e9442", func := "porter/porterlaw04.IpSame", spec := "ipSame", inPlace := ["internal/abi.NoEscape", "internal/bytealg.MakeNoZero"], unfollowed := true, recurses := true, apart := false, narrowed := true }
def IpSameUptoSaid : Prop := ipSameUptoRow.holds Try.pinned (OpenSpec.upto ipSameSpec)

/-- 'porterlaw04.IpSpoilt', WHERE WHAT IT READS IS OF BULK AT MOST 1048576: true; the input reads as it did. -/
def ipSpoiltUptoRow : OpenClaim := { program := "ytlmpoikjjidgiaa", sum := "3776586ddb18335ed59b5f3dbf695a19e22b2b764b984738c9ecc501e02e9442", func := "porter/porterlaw04.IpSpoilt", spec := "ipSpoilt", inPlace := ["internal/abi.NoEscape", "internal/bytealg.MakeNoZero"], unfollowed := true, recurses := true, apart := false, narrowed := true }
def IpSpoiltUptoSaid : Prop := ipSpoiltUptoRow.holds Try.pinned (OpenSpec.upto ipSpoiltSpec)

end Rows
end Go.Proofs.Ytlmpoikjjidgiaa
