/-
  No cell of these rows narrows 'for every input' (looked for: loops, veiled, ifaces, maps, wideKeys, modest, calm, conditions, laid).
  DERIVED. THE GIVEN ROWS OF THIS SEAT. 5 by the template 'for every input the law returns true; each argument reads behind the call as it read before'; 0 by the template 'total and deterministic' (their statements: YthmedjlecikbiaaTotals.lean).
  GIVEN WITH THE SEED: the statements are not yours to turn. If you find one false, say at which input.
  Laid BY PROGRAM, IN A SANDBOX (cutbox-rows.mjs): the forced cells as the released guide's own fill.sh prints them over the translation b54805f3c218568c… (all of the seat's roots in one cut). By AI agents, Wed Nov 11 2026. No macro, syntax, notation, axiom, sorry.
-/
import Derived.Test.YthmedjlecikbiaaChecked
import GoSem.Claim
import GoSem.ClaimJoined
import GoSem.ClaimMapViews
import Derived.JoinedTies
import Derived.KernelRfl
namespace Go.Proofs.Ythmedjlecikbiaa
/- THE CELL 'sum', in the pinned program and in every row, IS THE sha256 OF THE DUMP (.gsa) THAT YthmedjlecikbiaaProg.lean LOADS. Nothing in Lean hashes anything: it is a label: what it is worth is what the hold of that sum in a sandbox is worth. -/
noncomputable def Try.pinned : Pinned := { name := "ythmedjlecikbiaa", sum := "b54805f3c218568c866b8c082777b037a65f47d3c8bbd08911d8b8f411b816ca", checked := Try.checked }
namespace Rows
def none {H : Type} : Left H := { results := [], args := [] }

/-- 'porterlaw05.UdpTell': WHATEVER THE INPUT: true; the input reads as it did. -/
def udpTellSpec : ChangeSpec := { name := "udpTell", fn := fun _ => fun
  | [d1, d2, d3] => { results := [.lit (.bool true)], args := [d1, d2, d3] }
  | _ => none }
def udpTellRow : OpenClaim := { program := "ythmedjlecikbiaa", sum := "b54805f3c218568c866b8c082777b037a65f47d3c8bbd08911d8b8f411b816ca", func := "porter/porterlaw05.UdpTell", spec := "udpTell", inPlace := ["internal/abi.NoEscape"], unfollowed := true, recurses := true, apart := false }
def UdpTellSaid : Prop := udpTellRow.holds Try.pinned (OpenSpec.ofChange udpTellSpec)

/-- ITS FALSE NEIGHBOUR: 'it returns false'. Refute it at one input. -/
def udpTellWrong : ChangeSpec := { name := "udpTell", fn := fun _ => fun
  | [d1, d2, d3] => { results := [.lit (.bool false)], args := [d1, d2, d3] }
  | _ => none }
def UdpTellWrongFalsely : Prop := udpTellRow.holds Try.pinned (OpenSpec.ofChange udpTellWrong)

/-- 'porterlaw05.UdpSums': WHATEVER THE INPUT: true; the input reads as it did. -/
def udpSumsSpec : ChangeSpec := { name := "udpSums", fn := fun _ => fun
  | [d1, d2, d3] => { results := [.lit (.bool true)], args := [d1, d2, d3] }
  | _ => none }
def udpSumsRow : OpenClaim := { program := "ythmedjlecikbiaa", sum := "b54805f3c218568c866b8c082777b037a65f47d3c8bbd08911d8b8f411b816ca", func := "porter/porterlaw05.UdpSums", spec := "udpSums", inPlace := ["internal/abi.NoEscape"], unfollowed := true, recurses := true, apart := false }
def UdpSumsSaid : Prop := udpSumsRow.holds Try.pinned (OpenSpec.ofChange udpSumsSpec)

/-- ITS FALSE NEIGHBOUR: 'it returns false'. Refute it at one input. -/
def udpSumsWrong : ChangeSpec := { name := "udpSums", fn := fun _ => fun
  | [d1, d2, d3] => { results := [.lit (.bool false)], args := [d1, d2, d3] }
  | _ => none }
def UdpSumsWrongFalsely : Prop := udpSumsRow.holds Try.pinned (OpenSpec.ofChange udpSumsWrong)

/-- 'porterlaw05.UdpBack': WHATEVER THE INPUT: true; the input reads as it did. -/
def udpBackSpec : ChangeSpec := { name := "udpBack", fn := fun _ => fun
  | [d1, d2, d3] => { results := [.lit (.bool true)], args := [d1, d2, d3] }
  | _ => none }
def udpBackRow : OpenClaim := { program := "ythmedjlecikbiaa", sum := "b54805f3c218568c866b8c082777b037a65f47d3c8bbd08911d8b8f411b816ca", func := "porter/porterlaw05.UdpBack", spec := "udpBack", inPlace := ["internal/abi.NoEscape"], unfollowed := true, recurses := true, apart := false }
def UdpBackSaid : Prop := udpBackRow.holds Try.pinned (OpenSpec.ofChange udpBackSpec)

/-- ITS FALSE NEIGHBOUR: 'it returns false'. Refute it at one input. -/
def udpBackWrong : ChangeSpec := { name := "udpBack", fn := fun _ => fun
  | [d1, d2, d3] => { results := [.lit (.bool false)], args := [d1, d2, d3] }
  | _ => none }
def UdpBackWrongFalsely : Prop := udpBackRow.holds Try.pinned (OpenSpec.ofChange udpBackWrong)

/-- 'porterlaw05.UdpSeal': WHATEVER THE INPUT: true; the input reads as it did. -/
def udpSealSpec : ChangeSpec := { name := "udpSeal", fn := fun _ => fun
  | [d1, d2, d3] => { results := [.lit (.bool true)], args := [d1, d2, d3] }
  | _ => none }
def udpSealRow : OpenClaim := { program := "ythmedjlecikbiaa", sum := "b54805f3c218568c866b8c082777b037a65f47d3c8bbd08911d8b8f411b816ca", func := "porter/porterlaw05.UdpSeal", spec := "udpSeal", inPlace := ["internal/abi.NoEscape"], unfollowed := true, recurses := true, apart := false }
def UdpSealSaid : Prop := udpSealRow.holds Try.pinned (OpenSpec.ofChange udpSealSpec)

/-- ITS FALSE NEIGHBOUR: 'it returns false'. Refute it at one input. -/
def udpSealWrong : ChangeSpec := { name := "udpSeal", fn := fun _ => fun
  | [d1, d2, d3] => { results := [.lit (.bool false)], args := [d1, d2, d3] }
  | _ => none }
def UdpSealWrongFalsely : Prop := udpSealRow.holds Try.pinned (OpenSpec.ofChange udpSealWrong)

/-- 'porterlaw05.UdpLong': WHATEVER THE INPUT: true; the input reads as it did. -/
def udpLongSpec : ChangeSpec := { name := "udpLong", fn := fun _ => fun
  | [d1, d2, d3] => { results := [.lit (.bool true)], args := [d1, d2, d3] }
  | _ => none }
def udpLongRow : OpenClaim := { program := "ythmedjlecikbiaa", sum := "b54805f3c218568c866b8c082777b037a65f47d3c8bbd08911d8b8f411b816ca", func := "porter/porterlaw05.UdpLong", spec := "udpLong", inPlace := ["internal/abi.NoEscape", "internal/bytealg.MakeNoZero"], unfollowed := true, recurses := true, apart := false }
def UdpLongSaid : Prop := udpLongRow.holds Try.pinned (OpenSpec.ofChange udpLongSpec)

/-- ITS FALSE NEIGHBOUR: 'it returns false'. Refute it at one input. -/
def udpLongWrong : ChangeSpec := { name := "udpLong", fn := fun _ => fun
  | [d1, d2, d3] => { results := [.lit (.bool false)], args := [d1, d2, d3] }
  | _ => none }
def UdpLongWrongFalsely : Prop := udpLongRow.holds Try.pinned (OpenSpec.ofChange udpLongWrong)

/- THE SECOND FORM. 'bulk': how many values and letters a reading holds, each counted each time it is reached (what is shared counts as often as it is met; a slice's spare places count too). A statement '..UptoSaid' is the law's where the arguments, and the package variables that the reading takes, are together of bulk at most 1048576: NARROWER than '..Said'. Prove '..Said' where nothing that the law and all that it calls make is longer than what came in: it says more and counts as full. Else prove '..UptoSaid'. A law counts once. -/
mutual
def uptoBulk {H : Type} : DataW H → Nat
  | .lit (.string bytes) => bytes.length + 1
  | .lit _ => 1
  | .nil => 1
  | .ptr d => uptoBulk d + 1
  | .slice elems spare => uptoBulkAll elems + uptoBulkAll spare + 1
  | .agg parts => uptoBulkAll parts + 1
  | .iface _ d => uptoBulk d + 1
  | .map entries => uptoBulkEntries entries + 1
  | .held _ => 1
def uptoBulkAll {H : Type} : List (DataW H) → Nat
  | [] => 0
  | d :: r => uptoBulk d + uptoBulkAll r
def uptoBulkEntries {H : Type} : List (Lit × DataW H) → Nat
  | [] => 0
  | x :: r => uptoBulkEntry x + uptoBulkEntries r
def uptoBulkEntry {H : Type} : Lit × DataW H → Nat
  | (.string bytes, d) => bytes.length + uptoBulk d + 1
  | (_, d) => uptoBulk d + 1
 end
def uptoSmall : (H : Type) → List (DataW H) → Bool := fun _ ds => decide (uptoBulkAll ds ≤ 1048576)
def OpenSpec.upto (s : _root_.Go.ChangeSpec) : _root_.Go.OpenSpec := { _root_.Go.OpenSpec.ofChange s with cond := some uptoSmall }

/-- 'porterlaw05.UdpTell', WHERE WHAT IT READS IS OF BULK AT MOST 1048576: true; the input reads as it did. -/
def udpTellUptoRow : OpenClaim := { program := "ythmedjlecikbiaa", sum := "b54805f3c218568c866b8c082777b037a65f47d3c8bbd08911d8b8f411b816ca", func := "porter/porterlaw05.UdpTell", spec := "udpTell", inPlace := ["internal/abi.NoEscape"], unfollowed := true, recurses := true, apart := false, narrowed := true }
def UdpTellUptoSaid : Prop := udpTellUptoRow.holds Try.pinned (OpenSpec.upto udpTellSpec)

/-- 'porterlaw05.UdpSums', WHERE WHAT IT READS IS OF BULK AT MOST 1048576: true; the input reads as it did. -/
def udpSumsUptoRow : OpenClaim := { program := "ythmedjlecikbiaa", sum := "b54805f3c218568c866b8c082777b037a65f47d3c8bbd08911d8b8f411b816ca", func := "porter/porterlaw05.UdpSums", spec := "udpSums", inPlace := ["internal/abi.NoEscape"], unfollowed := true, recurses := true, apart := false, narrowed := true }
def UdpSumsUptoSaid : Prop := udpSumsUptoRow.holds Try.pinned (OpenSpec.upto udpSumsSpec)

/-- 'porterlaw05.UdpBack', WHERE WHAT IT READS IS OF BULK AT MOST 1048576: true; the input reads as it did. -/
def udpBackUptoRow : OpenClaim := { program := "ythmedjlecikbiaa", sum := "b54805f3c218568c866b8c082777b037a65f47d3c8bbd08911d8b8f411b816ca", func := "porter/porterlaw05.UdpBack", spec := "udpBack", inPlace := ["internal/abi.NoEscape"], unfollowed := true, recurses := true, apart := false, narrowed := true }
def UdpBackUptoSaid : Prop := udpBackUptoRow.holds Try.pinned (OpenSpec.upto udpBackSpec)

/-- 'porterlaw05.UdpSeal', WHERE WHAT IT READS IS OF BULK AT MOST 1048576: true; the input reads as it did. -/
def udpSealUptoRow : OpenClaim := { program := "ythmedjlecikbiaa", sum := "b54805f3c218568c866b8c082777b037a65f47d3c8bbd08911d8b8f411b816ca", func := "porter/porterlaw05.UdpSeal", spec := "udpSeal", inPlace := ["internal/abi.NoEscape"], unfollowed := true, recurses := true, apart := false, narrowed := true }
def UdpSealUptoSaid : Prop := udpSealUptoRow.holds Try.pinned (OpenSpec.upto udpSealSpec)

/-- 'porterlaw05.UdpLong', WHERE WHAT IT READS IS OF BULK AT MOST 1048576: true; the input reads as it did. -/
def udpLongUptoRow : OpenClaim := { program := "ythmedjlecikbiaa", sum := "b54805f3c218568c866b8c082777b037a65f47d3c8bbd08911d8b8f411b816ca", func := "porter/porterlaw05.UdpLong", spec := "udpLong", inPlace := ["internal/abi.NoEscape", "internal/bytealg.MakeNoZero"], unfollowed := true, recurses := true, apart := false, narrowed := true }
def UdpLongUptoSaid : Prop := udpLongUptoRow.holds Try.pinned (OpenSpec.upto udpLongSpec)

end Rows
end Go.Proofs.Ythmedjlecikbiaa
