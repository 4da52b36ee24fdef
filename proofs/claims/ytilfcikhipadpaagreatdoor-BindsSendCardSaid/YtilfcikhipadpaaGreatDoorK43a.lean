/- Several texts of this claim, one behind the other. -/
import Derived.Test.YtilfcikhipadpaaGreatDoorK42a
import Derived.Test.YtilfcikhipadpaaGreatDoorK31a
import Derived.KernelRfl

section
/- What is wanted is the table's own: plain. -/
set_option linter.unusedVariables false
set_option linter.unusedSimpArgs false
namespace Go.Proofs.YtilfcikhipadpaaGreatDoor
open Go.RowKit Go.Lib Rx
end Go.Proofs.YtilfcikhipadpaaGreatDoor
end

section
/- What a first packet may become: under other names; what fails. -/
set_option linter.unusedVariables false
set_option linter.unusedSimpArgs false
namespace Go.Proofs.YtilfcikhipadpaaGreatDoor
open Go.RowKit Go.Lib Rx
variable {A : Amb} {rs : List Rule} {o ip b : Int}
@[reducible] def oK (R : Int × Pl) : Nat := match R.2.ws with | [] => 0 | _ :: _ => 1
@[reducible] def seL (q si sp di dp ki fl : Int) (ask : Bool) (ttl : Int) : Value := .agg #[.int .u8 q, .int .u32 si, .int .u16 sp, .int .u32 di, .int .u16 dp, .int .i64 ki, .int .u8 fl, .bool ask, .int .u8 ttl]
/-! ### what is seen: its bounds -/
end Go.Proofs.YtilfcikhipadpaaGreatDoor
end

section
/- A wire's text. -/
set_option linter.unusedVariables false
namespace Go.Proofs.YtilfcikhipadpaaGreatDoor
open Go.RowKit Go.Lib

theorem w_Text (k p f t b p0 p1 fl : Int) (s : ByteArray) (w : World) (h : 0 ≤ p ∧ 0 ≤ f ∧ 0 ≤ t ∧ 0 ≤ p0 ∧ 0 ≤ p1 ∧ 0 ≤ fl) (hb : 0 ≤ b) (hf : fl ≤ 255) (hs : s.size ≤ 140737488351232) :
    ∃ out : ByteArray, out.size ≤ 140737488351232 ∧ ∀ W, Below w.heap.size w W → Calls Tryz.prog 10 #[wireV k p f t b p0 p1 fl s] W (Ret (.string out) W) := by
  have cT := fun W => w_Tuple k p f t b p0 p1 fl s W h
  have hT : ((wireT p f t p0 p1 fl).p = 6 ∨ (wireT p f t p0 p1 fl).p = 17 ∨ ((wireT p f t p0 p1 fl).p = 1 ∧ ((wireT p f t p0 p1 fl).d = 0 ∨ ((wireT p f t p0 p1 fl).b = 0 ∧ (wireT p f t p0 p1 fl).d ≠ 0)))) ∧ (0 ≤ (wireT p f t p0 p1 fl).a ∧ (wireT p f t p0 p1 fl).a ≤ 4294967295) ∧ (0 ≤ (wireT p f t p0 p1 fl).b ∧ (wireT p f t p0 p1 fl).b ≤ 65535) ∧ (0 ≤ (wireT p f t p0 p1 fl).c ∧ (wireT p f t p0 p1 fl).c ≤ 4294967295) ∧ (0 ≤ (wireT p f t p0 p1 fl).d ∧ (wireT p f t p0 p1 fl).d ≤ 65535) := by
    have hp := proto_is p h.1
    have b1 := host_bd f; have b2 := host_bd t; have b3 := port_bd p0; have b4 := port_bd p1
    unfold wireT
    split
    · rename_i hp1
      split
      · exact ⟨Or.inr (Or.inr ⟨hp1, by by_cases h : portV p1 = 0 <;> simp [h]⟩), b1, (by decide : (0 : Int) ≤ 0 ∧ (0 : Int) ≤ 65535), b2, b4⟩
      · exact ⟨Or.inr (Or.inr ⟨hp1, Or.inl rfl⟩), b1, b3, b2, (by decide : (0 : Int) ≤ 0 ∧ (0 : Int) ≤ 65535)⟩
    · refine ⟨?_, b1, b3, b2, b4⟩
      simp only
      omega
  have hF : 0 ≤ flV fl ∧ flV fl ≤ 255 := by unfold flV; split <;> omega
  have cF := fun W => w_flags k p f t b p0 p1 fl s W
  generalize wireT p f t p0 p1 fl = T at *
  generalize flV fl = F at *
  obtain ⟨h1, h2, h3, h4, h5⟩ := hT
  by_cases k5 : k.tmod 8 = 5
  · obtain ⟨o1, z1, c1⟩ := madeG T.p T.a T.b T.c T.d F 9 { data := #[97, 98, 99, 100, 101, 102, 103, 104] } h1 h2 h3 h4 h5 hF (by decide) (by decide)
    have z1 : o1.size ≤ 48 := z1
    obtain ⟨o2, z2, c2⟩ := wrongG (hostV b) T.a 3 o1 (host_bd b) h2 (by decide) (by omega)
    refine ⟨o2, by omega, fun W _ => ?_⟩
    exact Rx.run (args := [wireV k p f t b p0 p1 fl s]) [Rx.yes 7 (b := k.tmod 8 == 5) (by simpa using k5), Rx.does 10 (args := [.int .u8 b, .int .u8 0]) (fun W _ => w_point b 0 W hb (by decide)), Rx.does 13 (args := [wireV k p f t b p0 p1 fl s]) (fun W _ => cT W), Rx.does 17 (args := [wireV k p f t b p0 p1 fl s]) (fun W _ => cT W), Rx.does 19 (args := [wireV k p f t b p0 p1 fl s]) (fun W _ => cF W), Rx.does 20 (args := [_, _, _, _]) (fun W _ => c1 W), Rx.does 21 (args := [_, _, _, _]) (fun W _ => c2 W)]
  have n5 : (k.tmod 8 == 5) = false := by simpa using k5
  by_cases k6 : k.tmod 8 = 6
  · obtain ⟨o1, z1, c1⟩ := madeG T.p T.a T.b T.c T.d F 1 { data := #[97, 98, 99] } h1 h2 h3 h4 h5 hF (by decide) (by decide)
    have z1 : o1.size ≤ 43 := z1
    refine ⟨o1, by omega, fun W _ => ?_⟩
    exact Rx.run (args := [wireV k p f t b p0 p1 fl s]) [Rx.no 7 n5, Rx.yes 10 (b := k.tmod 8 == 6) (by simpa using k6), Rx.does 12 (args := [wireV k p f t b p0 p1 fl s]) (fun W _ => cT W), Rx.does 14 (args := [wireV k p f t b p0 p1 fl s]) (fun W _ => cF W), Rx.does 15 (args := [_, _, _, _]) (fun W _ => c1 W)]
  have n6 : (k.tmod 8 == 6) = false := by simpa using k6
  by_cases k7 : k.tmod 8 = 7
  · exact ⟨s, hs, fun W _ => Rx.run (args := [wireV k p f t b p0 p1 fl s]) [Rx.no 7 n5, Rx.no 10 n6, Rx.yes 13 (b := k.tmod 8 == 7) (by simpa using k7)]⟩
  · obtain ⟨o1, z1, c1⟩ := madeG T.p T.a T.b T.c T.d F 64 { data := #[97, 98, 99, 100] } h1 h2 h3 h4 h5 hF (by decide) (by decide)
    have z1 : o1.size ≤ 44 := z1
    refine ⟨o1, by omega, fun W _ => ?_⟩
    exact Rx.run (args := [wireV k p f t b p0 p1 fl s]) [Rx.no 7 n5, Rx.no 10 n6, Rx.no 13 (b := k.tmod 8 == 7) (by simpa using k7), Rx.does 15 (args := [wireV k p f t b p0 p1 fl s]) (fun W _ => cT W), Rx.does 17 (args := [wireV k p f t b p0 p1 fl s]) (fun W _ => cF W), Rx.does 18 (args := [_, _, _, _]) (fun W _ => c1 W)]
end Go.Proofs.YtilfcikhipadpaaGreatDoor
end

section
/- binds: the chapter's plans: bound. -/
set_option linter.unusedVariables false
namespace Go.Proofs.YtilfcikhipadpaaGreatDoor
open Go.RowKit Go.Lib
theorem rx_bound (w : World) (hT : Lasts w) : Calls Tryz.prog 9 #[] w (Ret (.bool true) w) :=
  have t : ∀ n, Rx.Ev Tryz.prog (Rx.Amb.of w) := fun n => Rx.does n (args := [.int .i64 1, .int .u8 0]) fun W h => tk_First W 1 0 (hT.below h)
  Rx.run (args := []) [t 1698, t 2403, t 2781, t 3615]
end Go.Proofs.YtilfcikhipadpaaGreatDoor
end
