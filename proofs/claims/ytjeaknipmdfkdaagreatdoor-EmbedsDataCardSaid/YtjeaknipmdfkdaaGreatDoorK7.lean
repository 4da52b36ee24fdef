/- Several texts of this claim, one behind the other. -/
import Derived.Test.YtjeaknipmdfkdaaGreatDoorK2
import Derived.Test.YtjeaknipmdfkdaaGreatDoorK6
import Derived.Test.YtjeaknipmdfkdaaGreatDoorK5
import Derived.Deep.RegionHeldLaw
import Derived.Deep.RegionHeld3

section
/- A number laid into its place in a text, by the program's With and Word. -/
set_option linter.unusedVariables false
namespace Go.Proofs.YtjeaknipmdfkdaaGreatDoor
open Go.RowKit

theorem putW_one (n : Int) : putW [n] = put16 n := by simp [putW]
end Go.Proofs.YtjeaknipmdfkdaaGreatDoor
end

section
/- tcp's sums over this program, and the document's. -/
set_option linter.unusedVariables false
namespace Go.Proofs.YtjeaknipmdfkdaaGreatDoor
open Go.RowKit
attribute [local go_sem] Oper.semAt_some

end Go.Proofs.YtjeaknipmdfkdaaGreatDoor
end

section
/- tcp.Parse of what is no segment; tcp.Put. -/
set_option linter.unusedVariables false
namespace Go.Proofs.YtjeaknipmdfkdaaGreatDoor
open Go.RowKit
attribute [local go_sem] Oper.semAt_some

/-- how many bytes a segment's header has -/
def tcpOwn (l : List UInt8) : Int := at_ l 12 / 16 * 4
/-- is it a segment -/
def tcpIs (s : ByteArray) : Bool := decide (20 ≤ s.size) && decide (20 ≤ tcpOwn (L s)) && decide (tcpOwn (L s) ≤ s.size)

set_option maxHeartbeats 1000000 in
theorem t_Parse_no (s : ByteArray) (w : World) (hs : s.size ≤ 140737488351232) (h : tcpIs s = false) :
    Calls Tryz.prog 121 #[.string s] w (Ret (.tuple #[.agg #[.int .u16 0, .int .u16 0, .int .u32 0, .int .u32 0, .int .u8 0, .int .u8 0, .int .u16 0, .int .u16 0, .int .u16 0, .string { data := #[] }], .string { data := #[] }, .bool false]) w) := by
  by_cases h8 : s.size < 20
  · have q2 : (s.size : Int) < 20 := by omega
    clear h
    go_enter Tryz.func121, Tryz.ntmps121
    go_wp2_with fail
    (try simp only [Exit.inBlock, Exit.then]); refine bodyPost_ret (by simp [results, Tryz.results121, go_sem]; try rfl) rfl ?_
    exact ⟨rfl, (by (repeat' (first | with_reducible exact Below.refl _ _ | with_reducible refine Below.setCell ?_ (by first | exact Nat.le_refl _ | (dsimp only; omega)) _ | with_reducible refine bstep ?_ (fresh_below _ _) | with_reducible refine Below.drew ?_)))⟩
  · have q2 : ¬ (s.size : Int) < 20 := by omega
    have e0 : (((s[12]'(by omega)).toNat : Nat) : Int) = at_ (L s) 12 := by rw [getElem_L s 12 (by omega)]; rfl
    have hb := at_bd (L s) 12
    have ho : tcpOwn (L s) < 20 ∨ (s.size : Int) < tcpOwn (L s) := by unfold tcpIs at h; simp at h; omega
    unfold tcpOwn at ho
    have i4 : (12 : Int) < (s.size : Int) := by omega
    have i5 : 12 < s.size := by omega
    obtain ⟨x, hx⟩ : ∃ x, x = at_ (L s) 12 := ⟨_, rfl⟩
    rw [← hx] at e0 hb ho
    clear hx h
    have hcase : x / 16 * 4 < 20 ∨ (¬ x / 16 * 4 < 20 ∧ (s.size : Int) < x / 16 * 4) := by omega
    clear ho
    rcases hcase with ho | ⟨ho1, ho2⟩
    all_goals
      go_enter Tryz.func121, Tryz.ntmps121
      go_wp2_with fail
      (try simp only [Exit.inBlock, Exit.then]); refine bodyPost_ret (by simp [results, Tryz.results121, go_sem]; try rfl) rfl ?_
      exact ⟨rfl, (by (repeat' (first | with_reducible exact Below.refl _ _ | with_reducible refine Below.setCell ?_ (by first | exact Nat.le_refl _ | (dsimp only; omega)) _ | with_reducible refine bstep ?_ (fresh_below _ _) | with_reducible refine Below.drew ?_)))⟩
end Go.Proofs.YtjeaknipmdfkdaaGreatDoor
end
