/- Several texts of this claim, one behind the other. -/
import Derived.Test.YtilfcikhipadpaaGreatDoorK35a
import Derived.KernelRfl

section
/- What an error is about, changed, as the document says. Plain. -/
set_option linter.unusedVariables false
set_option linter.unusedSimpArgs false
namespace Go.Proofs.YtilfcikhipadpaaGreatDoor
open Go.RowKit

end Go.Proofs.YtilfcikhipadpaaGreatDoor
end

section
/- The document's Data is the program's: a plain law. -/
set_option linter.unusedVariables false
set_option linter.unusedSimpArgs false
namespace Go.Proofs.YtilfcikhipadpaaGreatDoor
open Go.RowKit

end Go.Proofs.YtilfcikhipadpaaGreatDoor
end

section
/- porterref10.Inner: the document. -/
set_option linter.unusedVariables false
set_option linter.unusedSimpArgs false
namespace Go.Proofs.YtilfcikhipadpaaGreatDoor
open Go.RowKit
attribute [local go_sem] Oper.semAt_some envL lookV

end Go.Proofs.YtilfcikhipadpaaGreatDoor
end

section
/- binds.See, the program's and the document's. -/
set_option linter.unusedVariables false
namespace Go.Proofs.YtilfcikhipadpaaGreatDoor
open Go.RowKit Go.Lib

def seenV (x : Seen) : Value := .agg #[.int .u8 x.t.p, .int .u32 x.t.a, .int .u16 x.t.b, .int .u32 x.t.c, .int .u16 x.t.d, .int .i64 x.k, .int .u8 x.f, .bool x.q, .int .u8 x.l]
def tupV (t : Tup) : Value := .agg #[.int .u8 t.p, .int .u32 t.a, .int .u16 t.b, .int .u32 t.c, .int .u16 t.d]
def glanceV (x : Seen) (t : Tup) (r : Int) : Value := .tuple #[.agg #[.int .u8 x.t.p, .int .u32 x.t.a, .int .u16 x.t.b, .int .u32 x.t.c, .int .u16 x.t.d, .int .i64 x.k, .int .u8 x.f, .bool x.q, .int .u8 x.l, .int .u8 t.p, .int .u32 t.a, .int .u16 t.b, .int .u32 t.c, .int .u16 t.d], .int .i64 r]
/-- the other way about -/
def backT (t : Tup) : Tup := ⟨t.p, t.c, t.d, t.a, t.b⟩
def tup0 : Tup := ⟨0, 0, 0, 0, 0⟩
/-- what is seen, by what is seen of a packet, and of what an error is about -/
def seeV (X : Seen) (r : Int) (T : Tup) (q : Int) : Value :=
  if r ≠ 0 then glanceV seenNone tup0 r else if X.l < 2 then glanceV seenNone tup0 8 else if X.k ≠ 3 then glanceV X X.t 0 else if q ≠ 0 then glanceV seenNone tup0 q else if T.a ≠ X.t.c then glanceV seenNone tup0 15 else glanceV X (backT T) 0
theorem b_see (s : ByteArray) (w : World) (X : Seen) (r : Int) (T : Tup) (q : Int)
    (c1 : ∀ W, Below w.heap.size w W → Calls Tryz.prog 27 #[.string s] W (Ret (.tuple #[seenV X, .int .i64 r]) W))
    (c2 : ∀ W, Below w.heap.size w W → Calls Tryz.prog 31 #[.string s] W (Ret (.tuple #[tupV T, .int .i64 q]) W)) :
    Calls Tryz.prog 11 #[.string s] w (Ret (seeV X r T q) w) := by
  unfold seeV
  split
  · rename_i h1
    exact Rx.run [Rx.does 3 (args := [.string s]) c1, Rx.yes 12 (bne_iff_ne.2 h1)]
  rename_i h1
  have h1 : r = 0 := Decidable.not_not.1 h1
  subst h1
  split
  · rename_i h2
    exact Rx.run [Rx.does 3 (args := [.string s]) c1, Rx.yes 16 (decide_eq_true h2)]
  rename_i h2
  split
  · rename_i h3
    exact Rx.run [Rx.does 3 (args := [.string s]) c1, Rx.no 16 (decide_eq_false h2), Rx.yes 20 (bne_iff_ne.2 h3)]
  rename_i h3
  have h3 : (X.k != 3) = false := by simpa using h3
  split
  · rename_i h4
    exact Rx.run [Rx.does 3 (args := [.string s]) c1, Rx.no 16 (decide_eq_false h2), Rx.no 20 h3, Rx.does 22 (args := [.string s]) c2, Rx.yes 31 (bne_iff_ne.2 h4)]
  rename_i h4
  have h4 : q = 0 := Decidable.not_not.1 h4
  subst h4
  split
  · rename_i h5
    exact Rx.run [Rx.does 3 (args := [.string s]) c1, Rx.no 16 (decide_eq_false h2), Rx.no 20 h3, Rx.does 22 (args := [.string s]) c2, Rx.yes 40 (bne_iff_ne.2 h5)]
  rename_i h5
  have h5 : (T.a != X.t.c) = false := by simpa using h5
  exact Rx.run [Rx.does 3 (args := [.string s]) c1, Rx.no 16 (decide_eq_false h2), Rx.no 20 h3, Rx.does 22 (args := [.string s]) c2, Rx.no 40 h5]
/-- See, of any text -/
theorem b_See (s : ByteArray) (w : World) (K : Kinds w) (hs : s.size ≤ 140737488351232) : Calls Tryz.prog 11 #[.string s] w (Ret (seeV (seenOf s) (seenWhy s) (inTup s) (emsWhy s)) w) :=
  b_see s w _ _ _ _ (fun W h => tu_Of s W (K.below h) hs) (fun W h => e_Inner W s (K.below h) hs)
end Go.Proofs.YtilfcikhipadpaaGreatDoor
end
