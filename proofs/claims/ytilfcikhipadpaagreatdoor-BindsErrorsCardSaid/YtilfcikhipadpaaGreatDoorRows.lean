/-
  NARROWER THAN 'FOR EVERY INPUT', by the rows' own cells (each row's printed sentence says how): BindsSee: laid · BindsOf: laid · BindsOwn: laid · BindsSend: laid · BindsGoes: laid · BindsErrors: laid.
  DERIVED. THE GIVEN ROWS OF THIS SEAT. 6 by the template 'for every input the law returns true; each argument reads behind the call as it read before'; 0 by the template 'total and deterministic' (their statements: YtilfcikhipadpaaGreatDoorTotals.lean).
  GIVEN WITH THE SEED: the statements are not yours to turn. If you find one false, say at which input.
  Laid BY PROGRAM, IN A SANDBOX (cutbox-rows.mjs): the forced cells as the released guide's own fill.sh prints them over the translation 6097038089cbad27… (all of the seat's roots in one cut). By AI agents, Wed Nov 11 2026. No macro, syntax, notation, axiom, sorry.
-/
import Derived.Test.YtilfcikhipadpaaGreatDoorChecked
import GoSem.Claim
import GoSem.ClaimJoined
import GoSem.ClaimMapViews
import Derived.JoinedTies
import Derived.KernelRfl
namespace Go.Proofs.YtilfcikhipadpaaGreatDoor
/- THE CELL 'sum', in the pinned program and in every row, IS THE sha256 OF THE DUMP (.gsa) THAT YtilfcikhipadpaaGreatDoorProg.lean LOADS. Nothing in Lean hashes anything: it is a label: what it is worth is what the hold of that sum in a sandbox is worth. -/
noncomputable def Tryz.pinned : Pinned := { name := "ytilfcikhipadpaagreatdoor", sum := "6097038089cbad2766199ced65a89ddbfea39d7c876ed7fdf14d805582dc9a40", checked := Tryz.checked }
namespace Rows
def none {H : Type} : Left H := { results := [], args := [] }

/- WHAT THE LISTED PACKAGE-LEVEL VARIABLES READ AS WHEN THE CALL BEGINS. Each datum BY PROGRAM (the guide's laid-datum.mjs) off the statement by which the dump's own 'gosem.cut.vars' lays the variable. In a bare row this is a premise. The card (YtilfcikhipadpaaGreatDoorCards.lean) ties it to the program's text. -/
def laid_porter_track_lasts {H : Type} : DataW H := .agg [.agg [.lit (.int .i64 0), .lit (.int .i64 0), .lit (.int .i64 0), .lit (.int .i64 0), .lit (.int .i64 0), .lit (.int .i64 0), .lit (.int .i64 0), .lit (.int .i64 0)], .agg [.lit (.int .i64 0), .lit (.int .i64 120), .lit (.int .i64 300), .lit (.int .i64 0), .lit (.int .i64 0), .lit (.int .i64 0), .lit (.int .i64 0), .lit (.int .i64 0)], .agg [.lit (.int .i64 0), .lit (.int .i64 60), .lit (.int .i64 60), .lit (.int .i64 0), .lit (.int .i64 0), .lit (.int .i64 0), .lit (.int .i64 0), .lit (.int .i64 0)], .agg [.lit (.int .i64 0), .lit (.int .i64 240), .lit (.int .i64 240), .lit (.int .i64 7440), .lit (.int .i64 240), .lit (.int .i64 240), .lit (.int .i64 240), .lit (.int .i64 240)]]
def laid_porter_icmp_kinds {H : Type} : DataW H := .map [(.int .u8 0, .lit (.int .i64 2)), (.int .u8 3, .lit (.int .i64 3)), (.int .u8 8, .lit (.int .i64 1)), (.int .u8 11, .lit (.int .i64 3)), (.int .u8 12, .lit (.int .i64 3)), (.int .u8 13, .lit (.int .i64 1)), (.int .u8 14, .lit (.int .i64 2))]
def laid_porter_tuples_words {H : Type} : DataW H := .map [(.int .u8 1, .lit (.string [105, 99, 109, 112])), (.int .u8 6, .lit (.string [116, 99, 112])), (.int .u8 17, .lit (.string [117, 100, 112]))]

/-- 'porterlaw20.BindsSee': WHATEVER THE INPUT: true; the input reads as it did. -/
def bindsSeeSpec : ChangeSpec := { name := "bindsSee", fn := fun _ => fun
  | [d] => { results := [.lit (.bool true)], args := [d] }
  | _ => none }
def bindsSeeRow : OpenClaim := { program := "ytilfcikhipadpaagreatdoor", sum := "6097038089cbad2766199ced65a89ddbfea39d7c876ed7fdf14d805582dc9a40", func := "porter/porterlaw20.BindsSee", spec := "bindsSee", inPlace := ["slices.overlaps[porter/api.Rule]"], unfollowed := true, recurses := true, named := ["porter/track.lasts", "porter/icmp.kinds"], apart := false, laid := [("porter/track.lasts", laid_porter_track_lasts), ("porter/icmp.kinds", laid_porter_icmp_kinds)] }
def BindsSeeSaid : Prop := bindsSeeRow.holds Tryz.pinned (OpenSpec.ofChange bindsSeeSpec)

/-- ITS FALSE NEIGHBOUR: 'it returns false'. Refute it at one input. -/
def bindsSeeWrong : ChangeSpec := { name := "bindsSee", fn := fun _ => fun
  | [d] => { results := [.lit (.bool false)], args := [d] }
  | _ => none }
def BindsSeeWrongFalsely : Prop := bindsSeeRow.holds Tryz.pinned (OpenSpec.ofChange bindsSeeWrong)

/-- 'porterlaw20.BindsOf': WHATEVER THE INPUT: true; the input reads as it did. -/
def bindsOfSpec : ChangeSpec := { name := "bindsOf", fn := fun _ => fun
  | [d1, d2, d3] => { results := [.lit (.bool true)], args := [d1, d2, d3] }
  | _ => none }
def bindsOfRow : OpenClaim := { program := "ytilfcikhipadpaagreatdoor", sum := "6097038089cbad2766199ced65a89ddbfea39d7c876ed7fdf14d805582dc9a40", func := "porter/porterlaw20.BindsOf", spec := "bindsOf", inPlace := ["slices.overlaps[porter/api.Rule]"], unfollowed := true, recurses := true, named := ["porter/icmp.kinds", "porter/track.lasts"], apart := false, laid := [("porter/track.lasts", laid_porter_track_lasts), ("porter/icmp.kinds", laid_porter_icmp_kinds)] }
def BindsOfSaid : Prop := bindsOfRow.holds Tryz.pinned (OpenSpec.ofChange bindsOfSpec)

/-- ITS FALSE NEIGHBOUR: 'it returns false'. Refute it at one input. -/
def bindsOfWrong : ChangeSpec := { name := "bindsOf", fn := fun _ => fun
  | [d1, d2, d3] => { results := [.lit (.bool false)], args := [d1, d2, d3] }
  | _ => none }
def BindsOfWrongFalsely : Prop := bindsOfRow.holds Tryz.pinned (OpenSpec.ofChange bindsOfWrong)

/-- 'porterlaw20.BindsOwn': WHATEVER THE INPUT: true; the input reads as it did. -/
def bindsOwnSpec : ChangeSpec := { name := "bindsOwn", fn := fun _ => fun
  | [d1, d2] => { results := [.lit (.bool true)], args := [d1, d2] }
  | _ => none }
def bindsOwnRow : OpenClaim := { program := "ytilfcikhipadpaagreatdoor", sum := "6097038089cbad2766199ced65a89ddbfea39d7c876ed7fdf14d805582dc9a40", func := "porter/porterlaw20.BindsOwn", spec := "bindsOwn", inPlace := ["slices.overlaps[porter/api.Rule]"], unfollowed := true, recurses := true, named := ["porter/icmp.kinds", "porter/track.lasts"], apart := false, laid := [("porter/track.lasts", laid_porter_track_lasts), ("porter/icmp.kinds", laid_porter_icmp_kinds)] }
def BindsOwnSaid : Prop := bindsOwnRow.holds Tryz.pinned (OpenSpec.ofChange bindsOwnSpec)

/-- ITS FALSE NEIGHBOUR: 'it returns false'. Refute it at one input. -/
def bindsOwnWrong : ChangeSpec := { name := "bindsOwn", fn := fun _ => fun
  | [d1, d2] => { results := [.lit (.bool false)], args := [d1, d2] }
  | _ => none }
def BindsOwnWrongFalsely : Prop := bindsOwnRow.holds Tryz.pinned (OpenSpec.ofChange bindsOwnWrong)

/-- 'porterlaw20.BindsSend': WHATEVER THE INPUT: true; the input reads as it did. -/
def bindsSendSpec : ChangeSpec := { name := "bindsSend", fn := fun _ => fun
  | [d1, d2, d3] => { results := [.lit (.bool true)], args := [d1, d2, d3] }
  | _ => none }
def bindsSendRow : OpenClaim := { program := "ytilfcikhipadpaagreatdoor", sum := "6097038089cbad2766199ced65a89ddbfea39d7c876ed7fdf14d805582dc9a40", func := "porter/porterlaw20.BindsSend", spec := "bindsSend", inPlace := ["slices.overlaps[porter/api.Rule]", "internal/abi.NoEscape"], unfollowed := true, recurses := true, named := ["porter/track.lasts", "porter/icmp.kinds"], apart := false, laid := [("porter/track.lasts", laid_porter_track_lasts), ("porter/icmp.kinds", laid_porter_icmp_kinds)] }
def BindsSendSaid : Prop := bindsSendRow.holds Tryz.pinned (OpenSpec.ofChange bindsSendSpec)

/-- ITS FALSE NEIGHBOUR: 'it returns false'. Refute it at one input. -/
def bindsSendWrong : ChangeSpec := { name := "bindsSend", fn := fun _ => fun
  | [d1, d2, d3] => { results := [.lit (.bool false)], args := [d1, d2, d3] }
  | _ => none }
def BindsSendWrongFalsely : Prop := bindsSendRow.holds Tryz.pinned (OpenSpec.ofChange bindsSendWrong)

/-- 'porterlaw20.BindsGoes': WHATEVER THE INPUT: true; the input reads as it did. -/
def bindsGoesSpec : ChangeSpec := { name := "bindsGoes", fn := fun _ => fun
  | [d1, d2, d3] => { results := [.lit (.bool true)], args := [d1, d2, d3] }
  | _ => none }
def bindsGoesRow : OpenClaim := { program := "ytilfcikhipadpaagreatdoor", sum := "6097038089cbad2766199ced65a89ddbfea39d7c876ed7fdf14d805582dc9a40", func := "porter/porterlaw20.BindsGoes", spec := "bindsGoes", inPlace := ["slices.overlaps[porter/api.Rule]", "internal/abi.NoEscape"], unfollowed := true, recurses := true, named := ["porter/track.lasts", "porter/icmp.kinds", "porter/tuples.words"], apart := false, laid := [("porter/track.lasts", laid_porter_track_lasts), ("porter/icmp.kinds", laid_porter_icmp_kinds), ("porter/tuples.words", laid_porter_tuples_words)] }
def BindsGoesSaid : Prop := bindsGoesRow.holds Tryz.pinned (OpenSpec.ofChange bindsGoesSpec)

/-- ITS FALSE NEIGHBOUR: 'it returns false'. Refute it at one input. -/
def bindsGoesWrong : ChangeSpec := { name := "bindsGoes", fn := fun _ => fun
  | [d1, d2, d3] => { results := [.lit (.bool false)], args := [d1, d2, d3] }
  | _ => none }
def BindsGoesWrongFalsely : Prop := bindsGoesRow.holds Tryz.pinned (OpenSpec.ofChange bindsGoesWrong)

/-- 'porterlaw20.BindsErrors': WHATEVER THE INPUT: true; the input reads as it did. -/
def bindsErrorsSpec : ChangeSpec := { name := "bindsErrors", fn := fun _ => fun
  | [d1, d2, d3] => { results := [.lit (.bool true)], args := [d1, d2, d3] }
  | _ => none }
def bindsErrorsRow : OpenClaim := { program := "ytilfcikhipadpaagreatdoor", sum := "6097038089cbad2766199ced65a89ddbfea39d7c876ed7fdf14d805582dc9a40", func := "porter/porterlaw20.BindsErrors", spec := "bindsErrors", inPlace := ["slices.overlaps[porter/api.Rule]", "internal/abi.NoEscape"], unfollowed := true, recurses := true, named := ["porter/track.lasts", "porter/icmp.kinds", "porter/tuples.words"], apart := false, laid := [("porter/track.lasts", laid_porter_track_lasts), ("porter/icmp.kinds", laid_porter_icmp_kinds), ("porter/tuples.words", laid_porter_tuples_words)] }
def BindsErrorsSaid : Prop := bindsErrorsRow.holds Tryz.pinned (OpenSpec.ofChange bindsErrorsSpec)

/-- ITS FALSE NEIGHBOUR: 'it returns false'. Refute it at one input. -/
def bindsErrorsWrong : ChangeSpec := { name := "bindsErrors", fn := fun _ => fun
  | [d1, d2, d3] => { results := [.lit (.bool false)], args := [d1, d2, d3] }
  | _ => none }
def BindsErrorsWrongFalsely : Prop := bindsErrorsRow.holds Tryz.pinned (OpenSpec.ofChange bindsErrorsWrong)

/- THE SECOND FORM. 'bulk': how many values and letters a reading holds, each counted each time it is reached (what is shared counts as often as it is met; a slice's spare places count too). A statement '..UptoSaid' is the law's where the arguments, and the package variables that the reading takes, are together of bulk at most 1048576: NARROWER than '..Said'. Prove '..Said' where nothing that the law and all that it calls make is longer than what came in: it says more and counts as full. Else prove '..UptoSaid'. A law counts once. -/
mutual
def uptoBulk {H : Type} : DataW H → Nat
  | .lit (.string bytes) => bytes.length + 1
  | .lit _ => 1
  | .nil => 1
  | .ptr d => uptoBulk d + 1
  | .slice elems spare => uptoBulkAll elems + uptoBulkAll spare + 1
  | .agg parts => uptoBulkAll parts + 1
  | .iface _ d => uptoBulk d + 1
  | .map entries => uptoBulkEntries entries + 1
  | .held _ => 1
def uptoBulkAll {H : Type} : List (DataW H) → Nat
  | [] => 0
  | d :: r => uptoBulk d + uptoBulkAll r
def uptoBulkEntries {H : Type} : List (Lit × DataW H) → Nat
  | [] => 0
  | x :: r => uptoBulkEntry x + uptoBulkEntries r
def uptoBulkEntry {H : Type} : Lit × DataW H → Nat
  | (.string bytes, d) => bytes.length + uptoBulk d + 1
  | (_, d) => uptoBulk d + 1
 end
def uptoSmall : (H : Type) → List (DataW H) → Bool := fun _ ds => decide (uptoBulkAll ds ≤ 1048576)
def OpenSpec.upto (s : _root_.Go.ChangeSpec) : _root_.Go.OpenSpec := { _root_.Go.OpenSpec.ofChange s with cond := some uptoSmall }

/-- 'porterlaw20.BindsSee', WHERE WHAT IT READS IS OF BULK AT MOST 1048576: true; the input reads as it did. -/
def bindsSeeUptoRow : OpenClaim := { program := "ytilfcikhipadpaagreatdoor", sum := "6097038089cbad2766199ced65a89ddbfea39d7c876ed7fdf14d805582dc9a40", func := "porter/porterlaw20.BindsSee", spec := "bindsSee", inPlace := ["slices.overlaps[porter/api.Rule]"], unfollowed := true, recurses := true, named := ["porter/track.lasts", "porter/icmp.kinds"], apart := false, laid := [("porter/track.lasts", laid_porter_track_lasts), ("porter/icmp.kinds", laid_porter_icmp_kinds)], narrowed := true }
def BindsSeeUptoSaid : Prop := bindsSeeUptoRow.holds Tryz.pinned (OpenSpec.upto bindsSeeSpec)

/-- 'porterlaw20.BindsOf', WHERE WHAT IT READS IS OF BULK AT MOST 1048576: true; the input reads as it did. -/
def bindsOfUptoRow : OpenClaim := { program := "ytilfcikhipadpaagreatdoor", sum := "6097038089cbad2766199ced65a89ddbfea39d7c876ed7fdf14d805582dc9a40", func := "porter/porterlaw20.BindsOf", spec := "bindsOf", inPlace := ["slices.overlaps[porter/api.Rule]"], unfollowed := true, recurses := true, named := ["porter/icmp.kinds", "porter/track.lasts"], apart := false, laid := [("porter/track.lasts", laid_porter_track_lasts), ("porter/icmp.kinds", laid_porter_icmp_kinds)], narrowed := true }
def BindsOfUptoSaid : Prop := bindsOfUptoRow.holds Tryz.pinned (OpenSpec.upto bindsOfSpec)

/-- 'porterlaw20.BindsOwn', WHERE WHAT IT READS IS OF BULK AT MOST 1048576: true; the input reads as it did. -/
def bindsOwnUptoRow : OpenClaim := { program := "ytilfcikhipadpaagreatdoor", sum := "6097038089cbad2766199ced65a89ddbfea39d7c876ed7fdf14d805582dc9a40", func := "porter/porterlaw20.BindsOwn", spec := "bindsOwn", inPlace := ["slices.overlaps[porter/api.Rule]"], unfollowed := true, recurses := true, named := ["porter/icmp.kinds", "porter/track.lasts"], apart := false, laid := [("porter/track.lasts", laid_porter_track_lasts), ("porter/icmp.kinds", laid_porter_icmp_kinds)], narrowed := true }
def BindsOwnUptoSaid : Prop := bindsOwnUptoRow.holds Tryz.pinned (OpenSpec.upto bindsOwnSpec)

/-- 'porterlaw20.BindsSend', WHERE WHAT IT READS IS OF BULK AT MOST 1048576: true; the input reads as it did. -/
def bindsSendUptoRow : OpenClaim := { program := "ytilfcikhipadpaagreatdoor", sum := "6097038089cbad2766199ced65a89ddbfea39d7c876ed7fdf14d805582dc9a40", func := "porter/porterlaw20.BindsSend", spec := "bindsSend", inPlace := ["slices.overlaps[porter/api.Rule]", "internal/abi.NoEscape"], unfollowed := true, recurses := true, named := ["porter/track.lasts", "porter/icmp.kinds"], apart := false, laid := [("porter/track.lasts", laid_porter_track_lasts), ("porter/icmp.kinds", laid_porter_icmp_kinds)], narrowed := true }
def BindsSendUptoSaid : Prop := bindsSendUptoRow.holds Tryz.pinned (OpenSpec.upto bindsSendSpec)

/-- 'porterlaw20.BindsGoes', WHERE WHAT IT READS IS OF BULK AT MOST 1048576: true; the input reads as it did. -/
def bindsGoesUptoRow : OpenClaim := { program := "ytilfcikhipadpaagreatdoor", sum := "6097038089cbad2766199ced65a89ddbfea39d7c876ed7fdf14d805582dc9a40", func := "porter/porterlaw20.BindsGoes", spec := "bindsGoes", inPlace := ["slices.overlaps[porter/api.Rule]", "internal/abi.NoEscape"], unfollowed := true, recurses := true, named := ["porter/track.lasts", "porter/icmp.kinds", "porter/tuples.words"], apart := false, laid := [("porter/track.lasts", laid_porter_track_lasts), ("porter/icmp.kinds", laid_porter_icmp_kinds), ("porter/tuples.words", laid_porter_tuples_words)], narrowed := true }
def BindsGoesUptoSaid : Prop := bindsGoesUptoRow.holds Tryz.pinned (OpenSpec.upto bindsGoesSpec)

/-- 'porterlaw20.BindsErrors', WHERE WHAT IT READS IS OF BULK AT MOST 1048576: true; the input reads as it did. -/
def bindsErrorsUptoRow : OpenClaim := { program := "ytilfcikhipadpaagreatdoor", sum := "6097038089cbad2766199ced65a89ddbfea39d7c876ed7fdf14d805582dc9a40", func := "porter/porterlaw20.BindsErrors", spec := "bindsErrors", inPlace := ["slices.overlaps[porter/api.Rule]", "internal/abi.NoEscape"], unfollowed := true, recurses := true, named := ["porter/track.lasts", "porter/icmp.kinds", "porter/tuples.words"], apart := false, laid := [("porter/track.lasts", laid_porter_track_lasts), ("porter/icmp.kinds", laid_porter_icmp_kinds), ("porter/tuples.words", laid_porter_tuples_words)], narrowed := true }
def BindsErrorsUptoSaid : Prop := bindsErrorsUptoRow.holds Tryz.pinned (OpenSpec.upto bindsErrorsSpec)

end Rows
end Go.Proofs.YtilfcikhipadpaaGreatDoor
