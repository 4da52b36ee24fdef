/- Several texts of this claim, one behind the other. -/
import Derived.Test.YtpidgmamollmgaaDoorM9
import Derived.Test.YtpidgmamollmgaaDoorM4
import Derived.Test.YtpidgmamollmgaaDoorM5
import Derived.Deep.RegionHeldLaw
import Derived.Deep.RegionHeld3
import Derived.StillTailTactics
import Derived.Test.YtpidgmamollmgaaDoorM6

section
/- The document's answer for icmp (porterref07) over this program. -/
set_option linter.unusedVariables false
namespace Go.Proofs.YtpidgmamollmgaaDoor
open Go.RowKit
attribute [local go_sem] Oper.semAt_some

/-- a message's cells -/
structure Msg where
  t : Int
  c : Int
  n : Int
  r : ByteArray
  d : ByteArray
def Msg.Ok (m : Msg) : Prop := (0 ≤ m.t ∧ m.t ≤ 255) ∧ (0 ≤ m.c ∧ m.c ≤ 255) ∧ (0 ≤ m.n ∧ m.n ≤ 65535) ∧ m.r.size ≤ 140737488351232 ∧ m.d.size ≤ 140737488351232
/-- what a text is as a message -/
def msgOf (s : ByteArray) : Msg := ⟨at_ (L s) 0, at_ (L s) 1, be16 (L s) 2, s.extract 4 8, s.extract 8 s.size⟩
theorem msgOf_ok {s : ByteArray} (hs : s.size ≤ 140737488351232) : (msgOf s).Ok := by
  refine ⟨at_bd _ _, at_bd _ _, be16_bd _ _, ?_, ?_⟩
  · show (s.extract 4 8).size ≤ _; rw [ByteArray.size_extract]; omega
  · show (s.extract 8 s.size).size ≤ _; rw [ByteArray.size_extract]; omega
/-- a message's bytes -/
def msgPut (m : Msg) : List UInt8 := [byt m.t, byt m.c] ++ put16 m.n ++ L m.r ++ L m.d

theorem r7_Put_no (m : Msg) (w : World) (h : m.r.size ≠ 4) :
    Calls Tryd.prog 44 #[.agg #[.int .u8 m.t, .int .u8 m.c, .int .u16 m.n, .string m.r, .string m.d]] w (Ret (.tuple #[.string { data := #[] }, .int .i64 2]) w) := by
  have q1 : ((m.r.size : Int) == 4) = false := by simp; omega
  have q2 : ((m.r.size : Int) != 4) = true := by simp; omega
  go_enter Tryd.func44, Tryd.ntmps44
  go_wp2_with fail
  go_ret2
  exact ⟨rfl, (by (repeat' (first | with_reducible exact Below.refl _ _ | with_reducible refine Below.setCell ?_ (by first | exact Nat.le_refl _ | (dsimp only; omega)) _ | with_reducible refine bstep ?_ (fresh_below _ _) | with_reducible refine Below.drew ?_)))⟩

/-- a message with its sum -/
def icmpSum (l : List UInt8) : Int := sumL [lay l 2 0]
def icmpSeal (l : List UInt8) : List UInt8 := if l.length < 8 then l else lay l 2 (icmpSum l)
theorem icmpSum_bd (l : List UInt8) : 0 ≤ icmpSum l ∧ icmpSum l ≤ 65535 := sumL_bd _

end Go.Proofs.YtpidgmamollmgaaDoor
end

section
/- icmp over this program: what does not look at the kinds of messages. -/
set_option linter.unusedVariables false
namespace Go.Proofs.YtpidgmamollmgaaDoor
open Go.RowKit
attribute [local go_sem] Oper.semAt_some

theorem i_Parse_no (s : ByteArray) (w : World) (h : s.size < 8) :
    Calls Tryd.prog 62 #[.string s] w (Ret (.tuple #[.agg #[.int .u8 0, .int .u8 0, .int .u16 0, .string { data := #[] }, .string { data := #[] }], .bool false]) w) := by
  have q2 : (s.size : Int) < 8 := by omega
  go_enter Tryd.func62, Tryd.ntmps62
  go_wp2_with fail
  (try simp only [Exit.inBlock, Exit.then]); refine bodyPost_ret (by simp [results, Tryd.results62, go_sem]; try rfl) rfl ?_
  exact ⟨rfl, fresh_below _ _⟩

theorem i_ID (m : Msg) (w : World) (ho : m.Ok) :
    Calls Tryd.prog 64 #[.agg #[.int .u8 m.t, .int .u8 m.c, .int .u16 m.n, .string m.r, .string m.d]] w (Ret (.int .u16 (get16 (L m.r) 0)) w) := by
  have c := fun w => Get16 m.r 0 w (reach_max ho.2.2.2.1) (by omega)
  obtain ⟨x, hx⟩ : ∃ x, x = get16 (L m.r) 0 := ⟨_, rfl⟩
  obtain ⟨h, hh⟩ : ∃ x, x = has m.r.size 0 2 := ⟨_, rfl⟩
  rw [← hx, ← hh] at c
  rw [← hx]
  have C := hide c
  clear c hx hh
  go_enter Tryd.func64, Tryd.ntmps64
  go_wp2_with fail
  (with_reducible refine (C.out _).mono ?_)
  rintro e w1 ⟨rfl, b1⟩
  replace b1 : Below w.heap.size w w1 := by (refine bstep ?_ b1); (repeat' (first | with_reducible exact Below.refl _ _ | with_reducible refine Below.setCell ?_ (by first | exact Nat.le_refl _ | (dsimp only; omega)) _ | with_reducible refine bstep ?_ (fresh_below _ _) | with_reducible refine Below.drew ?_))
  have z1 : w.heap.size ≤ w1.heap.size := b1.size
  go_wp2_with fail
  go_ret
  exact ⟨rfl, (by (repeat' (first | with_reducible exact b1 | with_reducible exact Below.refl _ _ | with_reducible refine Below.setCell ?_ (by first | exact Nat.le_refl _ | (dsimp only; omega)) _ | with_reducible refine bstep ?_ (fresh_below _ _) | with_reducible refine Below.drew ?_)))⟩
end Go.Proofs.YtpidgmamollmgaaDoor
end
