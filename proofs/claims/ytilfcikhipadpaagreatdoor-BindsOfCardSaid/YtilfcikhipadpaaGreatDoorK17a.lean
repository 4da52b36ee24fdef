/- Several texts of this claim, one behind the other. -/
import Derived.Test.YtilfcikhipadpaaGreatDoorK16a
import Derived.Deep.RegionHeldLaw
import Derived.Deep.RegionHeld3

section
/- A number laid into its place in a text, by the program's With and Word. -/
set_option linter.unusedVariables false
namespace Go.Proofs.YtilfcikhipadpaaGreatDoor
open Go.RowKit

end Go.Proofs.YtilfcikhipadpaaGreatDoor
end

section
/- tcp's sums over this program, and the document's. -/
set_option linter.unusedVariables false
namespace Go.Proofs.YtilfcikhipadpaaGreatDoor
open Go.RowKit
attribute [local go_sem] Oper.semAt_some

def tcpSum (a b : Int) (l : List UInt8) : Int := sumL [pseudo a b 6 l.length, lay l 16 0]
def tcpSeal (a b : Int) (l : List UInt8) : List UInt8 := if l.length < 20 then l else lay l 16 (tcpSum a b l)
theorem tcpSum_bd (a b : Int) (l : List UInt8) : 0 ≤ tcpSum a b l ∧ tcpSum a b l ≤ 65535 := sumL_bd _

end Go.Proofs.YtilfcikhipadpaaGreatDoor
end

section
/- tcp.Parse of what is no segment; tcp.Put. -/
set_option linter.unusedVariables false
namespace Go.Proofs.YtilfcikhipadpaaGreatDoor
open Go.RowKit
attribute [local go_sem] Oper.semAt_some

/-- how many bytes a segment's header has -/
def tcpOwn (l : List UInt8) : Int := at_ l 12 / 16 * 4
/-- is it a segment -/
def tcpIs (s : ByteArray) : Bool := decide (20 ≤ s.size) && decide (20 ≤ tcpOwn (L s)) && decide (tcpOwn (L s) ≤ s.size)

set_option maxHeartbeats 1000000 in
theorem t_Parse_no (s : ByteArray) (w : World) (hs : s.size ≤ 140737488351232) (h : tcpIs s = false) :
    Calls Tryz.prog 179 #[.string s] w (Ret (.tuple #[.agg #[.int .u16 0, .int .u16 0, .int .u32 0, .int .u32 0, .int .u8 0, .int .u8 0, .int .u16 0, .int .u16 0, .int .u16 0, .string { data := #[] }], .string { data := #[] }, .bool false]) w) := by
  by_cases h8 : s.size < 20
  · have q2 : (s.size : Int) < 20 := by omega
    clear h
    go_enter Tryz.func179, Tryz.ntmps179
    go_wp2_with fail
    (try simp only [Exit.inBlock, Exit.then]); refine bodyPost_ret (by simp [results, Tryz.results179, go_sem]; try rfl) rfl ?_
    exact ⟨rfl, (by (repeat' (first | with_reducible exact Below.refl _ _ | with_reducible refine Below.setCell ?_ (by first | exact Nat.le_refl _ | (dsimp only; omega)) _ | with_reducible refine bstep ?_ (fresh_below _ _) | with_reducible refine Below.drew ?_)))⟩
  · have q2 : ¬ (s.size : Int) < 20 := by omega
    have e0 : (((s[12]'(by omega)).toNat : Nat) : Int) = at_ (L s) 12 := by rw [getElem_L s 12 (by omega)]; rfl
    have hb := at_bd (L s) 12
    have ho : tcpOwn (L s) < 20 ∨ (s.size : Int) < tcpOwn (L s) := by unfold tcpIs at h; simp at h; omega
    unfold tcpOwn at ho
    have i4 : (12 : Int) < (s.size : Int) := by omega
    have i5 : 12 < s.size := by omega
    obtain ⟨x, hx⟩ : ∃ x, x = at_ (L s) 12 := ⟨_, rfl⟩
    rw [← hx] at e0 hb ho
    clear hx h
    have hcase : x / 16 * 4 < 20 ∨ (¬ x / 16 * 4 < 20 ∧ (s.size : Int) < x / 16 * 4) := by omega
    clear ho
    rcases hcase with ho | ⟨ho1, ho2⟩
    all_goals
      go_enter Tryz.func179, Tryz.ntmps179
      go_wp2_with fail
      (try simp only [Exit.inBlock, Exit.then]); refine bodyPost_ret (by simp [results, Tryz.results179, go_sem]; try rfl) rfl ?_
      exact ⟨rfl, (by (repeat' (first | with_reducible exact Below.refl _ _ | with_reducible refine Below.setCell ?_ (by first | exact Nat.le_refl _ | (dsimp only; omega)) _ | with_reducible refine bstep ?_ (fresh_below _ _) | with_reducible refine Below.drew ?_)))⟩
end Go.Proofs.YtilfcikhipadpaaGreatDoor
end

section
/- tcp.Put over this program. -/
set_option linter.unusedVariables false
namespace Go.Proofs.YtilfcikhipadpaaGreatDoor
open Go.RowKit
attribute [local go_sem] Oper.semAt_some

/-- a segment's header -/
structure Seg where
  s : Int
  d : Int
  q : Int
  k : Int
  l : Int
  f : Int
  w : Int
  n : Int
  u : Int
  o : ByteArray
def Seg.Ok (h : Seg) : Prop := (0 ≤ h.s ∧ h.s ≤ 65535) ∧ (0 ≤ h.d ∧ h.d ≤ 65535) ∧ (0 ≤ h.q ∧ h.q ≤ 4294967295) ∧ (0 ≤ h.k ∧ h.k ≤ 4294967295) ∧ (0 ≤ h.l ∧ h.l ≤ 255) ∧ (0 ≤ h.f ∧ h.f ≤ 255) ∧ (0 ≤ h.w ∧ h.w ≤ 65535) ∧ (0 ≤ h.n ∧ h.n ≤ 65535) ∧ (0 ≤ h.u ∧ h.u ≤ 65535) ∧ h.o.size ≤ 140737488351232
/-- may it be put -/
def Seg.may (h : Seg) : Bool := decide (h.o.size ≤ 40) && decide (h.o.size % 4 = 0) && decide (h.l ≤ 15)
def Seg.off (h : Seg) : Int := (20 + (h.o.size : Int)) / 4 * 4096 + h.l * 256 + h.f
def Seg.head (h : Seg) : List UInt8 := putW [h.s, h.d] ++ put32 h.q ++ put32 h.k ++ putW [h.off, h.w, h.n, h.u]
def Seg.put (h : Seg) (p : ByteArray) : List UInt8 := h.head ++ L h.o ++ L p

theorem Row.up {X Y : World} {A : Option Addr} {n : Nat} {l : List Value} (r : Row X X.heap.size A n l) (b : Below X.heap.size X Y) : Row Y Y.heap.size A n l := (r.below b).more b.size

theorem Row.drawn {X : World} {A : Option Addr} {n : Nat} {l : List Value} (r : Row X X.heap.size A n l) : Row X.drew X.drew.heap.size A n l := r
end Go.Proofs.YtilfcikhipadpaaGreatDoor
end
