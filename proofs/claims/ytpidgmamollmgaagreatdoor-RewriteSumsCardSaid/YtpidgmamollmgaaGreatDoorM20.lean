/- Several texts of this claim, one behind the other. -/
import Derived.Test.YtpidgmamollmgaaGreatDoorM17
import Derived.Test.YtpidgmamollmgaaGreatDoorM13
import Derived.Test.YtpidgmamollmgaaGreatDoorM9
import Derived.Test.YtpidgmamollmgaaGreatDoorM19
import Derived.Deep.RegionHeld3

section
/- What is seen of a packet: plain. No walk. -/
set_option linter.unusedVariables false
namespace Go.Proofs.YtpidgmamollmgaaGreatDoor
open Go.RowKit

/-- between whom a packet goes -/
structure Tup where
  p : Int
  a : Int
  b : Int
  c : Int
  d : Int
def Tup.Ok (t : Tup) : Prop := (0 ≤ t.p ∧ t.p ≤ 255) ∧ (0 ≤ t.a ∧ t.a ≤ 4294967295) ∧ (0 ≤ t.b ∧ t.b ≤ 65535) ∧ (0 ≤ t.c ∧ t.c ≤ 4294967295) ∧ (0 ≤ t.d ∧ t.d ≤ 65535)
/-- what is seen of it -/
structure Seen where
  t : Tup
  k : Int
  f : Int
  q : Bool
  l : Int
def Seen.cells (x : Seen) : Array Value := #[.int .u8 x.t.p, .int .u32 x.t.a, .int .u16 x.t.b, .int .u32 x.t.c, .int .u16 x.t.d, .int .i64 x.k, .int .u8 x.f, .bool x.q, .int .u8 x.l]
def seenNone : Seen := ⟨⟨0, 0, 0, 0, 0⟩, 0, 0, false, 0⟩
/-- why nothing is seen of what a header says is behind it -/
def loadWhy (p : Int) (l : ByteArray) : Int :=
  if p = 6 then (if tcpIs l = true then 0 else 7) else if p = 17 then (if udpIs l = true then 0 else 7) else if p = 1 then (if l.size < 8 then 7 else if qIs (msgOf l) = true ∨ qErr (msgOf l) = true then 0 else 6) else 6
/-- what is seen of a header and what is behind it -/
def loadSeen (h : Hd) (l : ByteArray) : Seen :=
  if h.p = 6 then ⟨⟨6, h.s, (segOf l).s, h.d, (segOf l).d⟩, if bits .and .u8 (segOf l).f 23 = 2 then 1 else 2, (segOf l).f, false, h.l⟩
  else if h.p = 17 then ⟨⟨17, h.s, get16 (L l) 0, h.d, get16 (L l) 2⟩, 2, 0, false, h.l⟩
  else if qAsk (msgOf l) = true then ⟨⟨1, h.s, get16 (L (msgOf l).r) 0, h.d, 0⟩, 2, 0, true, h.l⟩
  else if qIs (msgOf l) = true then ⟨⟨1, h.s, 0, h.d, get16 (L (msgOf l).r) 0⟩, 2, 0, false, h.l⟩
  else ⟨⟨1, h.s, 0, h.d, 0⟩, 3, 0, false, h.l⟩
def seenWhy (s : ByteArray) : Int := if ipWhy s = 0 then loadWhy (hdOf s).p (ipRest s) else ipWhy s
def seenOf (s : ByteArray) : Seen := if seenWhy s = 0 then loadSeen (hdOf s) (ipRest s) else seenNone
end Go.Proofs.YtpidgmamollmgaaGreatDoor
end

section
/- A packet that is looked at (tuples), over this program. -/
set_option linter.unusedVariables false
set_option linter.unusedSimpArgs false
namespace Go.Proofs.YtpidgmamollmgaaGreatDoor
open Go.RowKit
attribute [local go_sem] Oper.semAt_some

/-! ### all that lay there lies as it lay, but block B -/
def But (B : Nat) (w w' : World) : Prop := Below 0 w w' ∧ ∀ k, k < w.heap.size → k ≠ B → w'.heap[k]? = w.heap[k]?
theorem But.refl (B : Nat) (w : World) : But B w w := ⟨Below.refl _ _, fun _ _ _ => rfl⟩
theorem But.of_below {B : Nat} {w w' : World} (h : Below w.heap.size w w') : But B w w' := ⟨h.mono (Nat.zero_le _), fun k hk _ => h.block k hk⟩
theorem But.step {B : Nat} {a b c : World} (h : But B a b) (k : Below b.heap.size b c) : But B a c := ⟨h.1.trans (k.mono (Nat.zero_le _)), fun i hi hb => (k.block i (Nat.lt_of_lt_of_le hi h.1.size)).trans (h.2 i hi hb)⟩
theorem But.trans {B : Nat} {a b c : World} (h : But B a b) (k : But B b c) : But B a c := ⟨h.1.trans k.1, fun i hi hb => (k.2 i (Nat.lt_of_lt_of_le hi h.1.size) hb).trans (h.2 i hi hb)⟩
theorem But.set {B : Nat} {a b : World} (h : But B a b) (j : Nat) (v : Value) : But B a (b.setCell ⟨B, j, none⟩ v) := ⟨h.1.setCell (Nat.zero_le _) _, fun i hi hb => (Below.heap_setCell b ⟨B, j, none⟩ v i hb).trans (h.2 i hi hb)⟩
theorem But.drew {B : Nat} {a b : World} (h : But B a b) : But B a b.drew := ⟨h.1.drew, h.2⟩
theorem But.cells {B : Nat} {a b : World} (h : But B a b) {k : Nat} {cs : Array Value} {t : TypeId} (hk : k ≠ B) (c : Cells a k cs t) : Cells b k cs t := (h.2 k c.lt hk).trans c
theorem But.below {n B : Nat} {a b : World} (h : But B a b) (hn : n ≤ B) (hB : B ≤ a.heap.size) : Below n a b := ⟨h.1.os, h.1.tape, h.1.output, h.1.size, fun k hk => h.2 k (by omega) (by omega)⟩

/-- a packet that was taken apart, and what is seen of it so far, in a block -/
def pkCells (h : Hd) (l : ByteArray) (x : Seen) : Array Value := #[.int .u8 h.t, .int .u16 h.i, .bool h.f, .int .u8 h.l, .int .u8 h.p, .int .u32 h.s, .int .u32 h.d, .string h.o, .string l, .int .u8 x.t.p, .int .u32 x.t.a, .int .u16 x.t.b, .int .u32 x.t.c, .int .u16 x.t.d, .int .i64 x.k, .int .u8 x.f, .bool x.q, .int .u8 x.l]
def Pk (w : World) (B : Nat) (h : Hd) (l : ByteArray) (x : Seen) : Prop := Cells w B (pkCells h l x) 74

set_option maxRecDepth 100000 in
set_option maxHeartbeats 2000000 in
theorem p_between (B : Nat) (h : Hd) (l : ByteArray) (x : Seen) (a b : Int) (w : World) (hC : Pk w B h l x) :
    Calls Tryz.prog 110 #[.pointer (some ⟨B, 0, none⟩), .int .u16 a, .int .u16 b] w (fun e w' => e = .returned (.tuple #[]) ∧ But B w w' ∧ Pk w' B h l ⟨⟨h.p, h.s, a, h.d, b⟩, x.k, x.f, x.q, x.l⟩) := by
  obtain ⟨h0, h1, h2, h3, h4, h5, h6, h7⟩ := h
  obtain ⟨⟨x0, x1, x2, x3, x4⟩, x5, x6, x7, x8⟩ := x
  unfold Pk pkCells at hC
  unfold Pk pkCells
  simp only at hC ⊢
  have hD := hC.drew
  have p4 : w.cell? ⟨B, 4, none⟩ = some (.int .u8 h4) := hC.at_ 4
  have p5 : w.cell? ⟨B, 5, none⟩ = some (.int .u32 h5) := hC.at_ 5
  have p6 : w.cell? ⟨B, 6, none⟩ = some (.int .u32 h6) := hC.at_ 6
  have hE := ((((hD.set_ 9 (.int .u8 h4)).set_ 10 (.int .u32 h5)).set_ 11 (.int .u16 a)).set_ 12 (.int .u32 h6)).set_ 13 (.int .u16 b)
  have hB : But B w (((((w.drew.setCell ⟨B, 9, none⟩ (.int .u8 h4)).setCell ⟨B, 10, none⟩ (.int .u32 h5)).setCell ⟨B, 11, none⟩ (.int .u16 a)).setCell ⟨B, 12, none⟩ (.int .u32 h6)).setCell ⟨B, 13, none⟩ (.int .u16 b)) := (((((But.refl B w).drew.set 9 _).set 10 _).set 11 _).set 12 _).set 13 _
  have HC := hide hC; have HD := hide hD; have HE := hide hE; have HB := hide hB
  clear hC hE hB
  go_enter Tryz.func110, Tryz.ntmps110
  go_wp2_with fail
  go_still_tail 24, (by kernel_rfl)
  change wpList _ _ _ _ _ w.drew
  clear hD
  have hD := HD.out
  generalize w.drew = w2 at *
  have c9 : w2.cell? ⟨B, 9, none⟩ = some (.int .u8 x0) := hD.at_ 9
  have c10 : w2.cell? ⟨B, 10, none⟩ = some (.int .u32 x1) := hD.at_ 10
  have c11 : w2.cell? ⟨B, 11, none⟩ = some (.int .u16 x2) := hD.at_ 11
  have c12 : w2.cell? ⟨B, 12, none⟩ = some (.int .u32 x3) := hD.at_ 12
  have c13 : w2.cell? ⟨B, 13, none⟩ = some (.int .u16 x4) := hD.at_ 13
  have f9 := hD.free 9; have f10 := hD.free 10; have f11 := hD.free 11; have f12 := hD.free 12; have f13 := hD.free 13
  clear hD
  go_wp2
  (try simp only [Exit.inBlock, Exit.then]); refine bodyPost_end (v := .tuple #[]) (by simp [results, Tryz.results110, go_sem]; try rfl) rfl ?_
  exact ⟨rfl, HB.out, HE.out⟩
end Go.Proofs.YtpidgmamollmgaaGreatDoor
end
