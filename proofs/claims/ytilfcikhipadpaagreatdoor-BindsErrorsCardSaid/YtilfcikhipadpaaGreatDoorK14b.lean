/- Several texts of this claim, one behind the other. -/
import Derived.Test.YtilfcikhipadpaaGreatDoorK13b
import Derived.OpenShut
import Derived.Test.YtilfcikhipadpaaGreatDoorProg
import Derived.Lib.Strings
import Derived.Lib.Slices
import Derived.Lib.Walk
import Derived.Lib.Builder
import Derived.Lib.AppendStr
import Derived.Lib.UnsafeStr
import Derived.Lib.MakeNoZero
import Derived.WalkKit
import Derived.Laws.Externs
import Derived.Laws.IdiomCopy
import Derived.Laws.BitsLemmas

section
/- Slices as arguments: their addresses. No program. -/
set_option linter.unusedVariables false
set_option linter.unusedSimpArgs false
namespace Go.Proofs.YtilfcikhipadpaaGreatDoor
open Go.RowKit Go.Lib Go.ChangeShapes Go.WideShapes Rx

/-- an address that came in -/
def RealA (X : Option Addr) : Prop := X = none ∨ ∃ b o, X = some ⟨b, o, none⟩
theorem RealA.real {X : Option Addr} (h : RealA X) (n c : Nat) : real (.slice X n c) = true := by
  rcases h with rfl | ⟨b, o, rfl⟩ <;> rfl
theorem real_slice {P : Program} {w : World} {base : Nat} {t e : TypeId} {X : Option Addr} {n c : Nat} (ht : P.underlying t = some (.slice e)) (h : Value.okWide P w .any base t (.slice X n c)) : RealA X := by
  simp only [Value.okWide, ht, Cell.okWide] at h
  cases X with
  | none => exact .inl rfl
  | some a =>
    simp only [Cell.ok, ht] at h
    obtain ⟨b, o, s⟩ := a
    have hs : s = none := h.2.2.2.1
    subst hs
    exact .inr ⟨b, o, rfl⟩
end Go.Proofs.YtilfcikhipadpaaGreatDoor
end

section
/- strings.Builder's methods over this program: copyCheck, WriteByte, WriteString, String leave a builder that holds what was written, and what lay below stays as it was. Conditions: at most 2^47 bytes. (Turned from the shelf's own proofs to this program.) -/
set_option linter.unusedVariables false
namespace Go.Proofs.YtilfcikhipadpaaGreatDoor
open Go.RowKit

theorem sizeBuilder : (Tryz.prog.info? 265).map (·.size) = some 2 := by kernel_rfl
theorem liesBuilder : liesAt Tryz.prog Tryz.prog.depth 265 (2 / Tryz.prog.cellsOf 265) 0 265 1 = true := by kernel_rfl
theorem infoByte : (Tryz.prog.info? 5).map (fun i => (i.zero, i.size, i.bytes)) = some (some (.int .u8 0), 1, 1) := by kernel_rfl
theorem cellsByte : Tryz.prog.cellsOf 5 = 1 := by kernel_rfl

set_option maxHeartbeats 1000000 in
set_option maxRecDepth 100000 in
theorem copyCheck_used (b : Nat) (w : World) (h0 : w.cell? ⟨b, 0, none⟩ = some (.pointer (some ⟨b, 0, none⟩))) :
    Calls Tryz.prog 202 #[.pointer (some ⟨b, 0, none⟩)] w fun e w' => e = .returned (.tuple #[]) ∧ w' = w := by
  obtain ⟨j, hj, _⟩ := Option.map_eq_some_iff.1 sizeBuilder
  go_enter Tryz.func202, Tryz.ntmps202
  go_wp2
  rw [Lib.run_neq_ptr_same w _ Tryz.underlying263 hj]
  go_wp2
  go_end0
  exact ⟨rfl, rfl⟩

set_option maxHeartbeats 1000000 in
set_option maxRecDepth 100000 in
theorem copyCheck_fresh (b : Nat) (w : World) (h0 : w.cell? ⟨b, 0, none⟩ = some (.pointer none)) (hsh : w.shape? b = some (265, 2)) (hfz : w.frozen? ⟨b, 0, none⟩ = false) :
    Calls Tryz.prog 202 #[.pointer (some ⟨b, 0, none⟩)] w fun e w' => e = .returned (.tuple #[]) ∧ w' = w.setCell ⟨b, 0, none⟩ (.pointer (some ⟨b, 0, none⟩)) := by
  obtain ⟨j, hj, hjs⟩ := Option.map_eq_some_iff.1 sizeBuilder
  go_enter Tryz.func202, Tryz.ntmps202
  go_wp2
  rw [Lib.run_to_unsafe w ⟨b, 0, none⟩ Tryz.underlying263 Tryz.underlying306 hj (by rw [hjs]; decide) hsh (Nat.zero_lt_succ 1)]
  simp only [Result.andThen]
  rw [Oper.upon_value]
  go_wp2
  rw [run_callFunc_extern Tryz.func208 (by kernel_rfl) (by kernel_rfl) (by kernel_rfl) (e := Extern.AbiNoEscape.same) (by kernel_rfl)]
  rw [Lib.run_noEscape]
  simp only [Result.andThen]
  rw [Oper.upon_value]
  go_wp2
  rw [Lib.run_from_unsafe w ⟨b, 0, none⟩ Tryz.underlying306 Tryz.underlying263 hj hsh liesBuilder]
  simp only [Result.andThen]
  rw [Oper.upon_value]
  go_wp2
  go_end0
  exact ⟨rfl, rfl⟩

theorem Builder_copyCheck (B b : Nat) (bs : List Value) (w : World) (h : Lib.IsBuilder 265 5 B b bs w) :
    Calls Tryz.prog 202 #[.pointer (some ⟨b, 0, none⟩)] w fun e w' => e = .returned (.tuple #[]) ∧ (Lib.BuilderAt 265 5 B b (.pointer (some ⟨b, 0, none⟩)) bs w' ∧ Below B w w') := by
  rcases h with h | h
  · refine (copyCheck_fresh b w h.cell0 h.shape h.frozen0).mono ?_
    rintro e w' ⟨rfl, rfl⟩
    exact ⟨rfl, h.used _, (Below.refl B w).setCell (p := ⟨b, 0, none⟩) h.1 _⟩
  · refine (copyCheck_used b w h.cell0).mono ?_
    rintro e w' ⟨rfl, rfl⟩
    exact ⟨rfl, h, Below.refl B _⟩

set_option maxHeartbeats 2000000 in
set_option maxRecDepth 100000 in
theorem Builder_WriteByte (B b : Nat) (bs : List Value) (c : Int) (w : World) (h : Lib.IsBuilder 265 5 B b bs w) (hlen : bs.length + 1 ≤ 140737488355328) (hBw : B ≤ w.heap.size) :
    Calls Tryz.prog 168 #[.pointer (some ⟨b, 0, none⟩), .int .u8 c] w fun e w' => e = .returned .nilIface ∧ (Lib.BuilderAt 265 5 B b (.pointer (some ⟨b, 0, none⟩)) (bs ++ [.int .u8 c]) w' ∧ Below B w w') := by
  obtain ⟨i0, hi, hz0, hz1, hz2⟩ := info_parts infoByte
  go_enter Tryz.func168, Tryz.ntmps168
  go_wp2_with (go_at_call 202; refine (Builder_copyCheck B b bs _ h).mono ?_)
  rintro e w1 ⟨rfl, h1, hb1⟩
  obtain ⟨hB, v, hbk, hown, hne⟩ := h1
  have c0 : w1.cell? ⟨b, 0, none⟩ = some (.pointer (some ⟨b, 0, none⟩)) := by rw [Lib.cell_of_heap hbk]; rfl
  have c1 : w1.cell? ⟨b, 1, none⟩ = some v := by rw [Lib.cell_of_heap hbk]; rfl
  go_wp2_with (at_builtin; refine wpList_append_own _ rfl _ _ 237 rfl B 5 i0 (.int .u8 0) 1 1 Tryz.underlying237 hi hz0 hz1 hz2 rfl (by decide) _ _ _ rfl (hown.alloc _) ⟨w1.heap.size, 0, none⟩ 1 1 [.int .u8 c] rfl rfl ?c1 ?c2 ?c3 ?c4 ?c5 ?_)
  case c1 =>
    intro j u hj
    match j, hj with
    | 0, hj => simp at hj; subst hj; simp [Addr.add]
  case c2 => intro u hu; simp at hu; subst hu; rfl
  case c3 => unfold maxLen; omega
  case c4 => omega
  case c5 => have := hb1.size; simp; omega
  intro v' w2 hown' hgrow _
  have hlt : b < w1.heap.size := by
    rcases Nat.lt_or_ge b w1.heap.size with h' | h'
    · exact h'
    · simp [Array.getElem?_eq_none h'] at hbk
  have hb2 : w2.heap[b]? = some (.cells #[.pointer (some ⟨b, 0, none⟩), v] 265 (0, 0)) := by
    rw [hgrow.block b (by simp; omega) (fun e => hne e.symm), Lib.alloc_old w1 _ b hlt]
    exact hbk
  have d0 : w2.cell? ⟨b, 0, none⟩ = some (.pointer (some ⟨b, 0, none⟩)) := by rw [Lib.cell_of_heap hb2]; rfl
  have d1 : w2.cell? ⟨b, 1, none⟩ = some v := by rw [Lib.cell_of_heap hb2]; rfl
  have f1 : w2.frozen? ⟨b, 1, none⟩ = false := Lib.frozen_of_heap hb2 1
  obtain ⟨g, cap, rfl⟩ : ∃ g cap, v' = .slice (some ⟨g, 0, none⟩) (bs.length + 1) cap := by
    rcases hown'.2 with ⟨_, h0⟩ | ⟨g, cap, cur, hv, _⟩
    · omega
    · exact ⟨g, cap, hv⟩
  go_wp2
  go_ret
  refine ⟨rfl, ?_, ?_⟩
  · exact Lib.BuilderAt.put (T := 265) (e := 5) hB hb2 (bs' := bs ++ [.int .u8 c]) (by simpa using hown') (by decide)
  · exact ((hb1.alloc (by have := hb1.size; omega) _).grown hgrow (by have := hb1.size; simp; omega) (fun k hk => (hown.lt k hk).1)).setCell (p := ⟨b, 1, none⟩) hB _

set_option maxHeartbeats 2000000 in
set_option maxRecDepth 100000 in
theorem Builder_WriteString (B b : Nat) (bs : List Value) (s : ByteArray) (w : World) (h : Lib.IsBuilder 265 5 B b bs w) (hlen : bs.length + s.size ≤ 140737488355328) (hBw : B ≤ w.heap.size) :
    Calls Tryz.prog 201 #[.pointer (some ⟨b, 0, none⟩), .string s] w fun e w' => e = .returned (.tuple #[.int .i64 s.size, .nilIface]) ∧ (Lib.BuilderAt 265 5 B b (.pointer (some ⟨b, 0, none⟩)) (bs ++ Lib.strCells s) w' ∧ Below B w w') := by
  obtain ⟨i0, hi, hz0, hz1, hz2⟩ := info_parts infoByte
  go_enter Tryz.func201, Tryz.ntmps201
  go_wp2_with (go_at_call 202; refine (Builder_copyCheck B b bs _ h).mono ?_)
  rintro e w1 ⟨rfl, h1, hb1⟩
  obtain ⟨hB, v, hbk, hown, hne⟩ := h1
  have c0 : w1.cell? ⟨b, 0, none⟩ = some (.pointer (some ⟨b, 0, none⟩)) := by rw [Lib.cell_of_heap hbk]; rfl
  have c1 : w1.cell? ⟨b, 1, none⟩ = some v := by rw [Lib.cell_of_heap hbk]; rfl
  go_wp2_with (at_builtin; refine Lib.wpList_append_own_string _ rfl _ _ 237 9 rfl B 5 i0 Tryz.underlying237 Tryz.underlying9 hi hz0 hz1 hz2 _ _ _ rfl hown s rfl ?c3 ?c4 ?c5 ?_)
  case c3 => unfold maxLen; omega
  case c4 => omega
  case c5 => have := hb1.size; omega
  intro v' w2 hown' hgrow _
  have hlt : b < w1.heap.size := by
    rcases Nat.lt_or_ge b w1.heap.size with h' | h'
    · exact h'
    · simp [Array.getElem?_eq_none h'] at hbk
  have hb2 : w2.heap[b]? = some (.cells #[.pointer (some ⟨b, 0, none⟩), v] 265 (0, 0)) := by
    rw [hgrow.block b hlt (fun e => hne e.symm)]
    exact hbk
  have d0 : w2.cell? ⟨b, 0, none⟩ = some (.pointer (some ⟨b, 0, none⟩)) := by rw [Lib.cell_of_heap hb2]; rfl
  have d1 : w2.cell? ⟨b, 1, none⟩ = some v := by rw [Lib.cell_of_heap hb2]; rfl
  have f1 : w2.frozen? ⟨b, 1, none⟩ = false := Lib.frozen_of_heap hb2 1
  obtain ⟨ao, n', cap, rfl⟩ : ∃ ao n' cap, v' = .slice ao n' cap := by
    rcases hown'.2 with ⟨hv, _⟩ | ⟨g, cap, cur, hv, _⟩
    · exact ⟨_, _, _, hv⟩
    · exact ⟨_, _, _, hv⟩
  go_wp2
  go_ret2
  refine ⟨rfl, ?_, ?_⟩
  · exact Lib.BuilderAt.put (T := 265) (e := 5) hB hb2 (bs' := bs ++ Lib.strCells s) (by simpa [Lib.strCells_length] using hown') (by decide)
  · exact (hb1.grown hgrow (by have := hb1.size; omega) (fun k hk => (hown.lt k hk).1)).setCell (p := ⟨b, 1, none⟩) hB _

set_option maxHeartbeats 1000000 in
set_option maxRecDepth 100000 in
theorem Builder_String_some (B b : Nat) (l : List UInt8) (w : World) (h : Lib.IsBuilder 265 5 B b (Lib.byteCells l) w) (h0 : l ≠ []) :
    Calls Tryz.prog 169 #[.pointer (some ⟨b, 0, none⟩)] w fun e w' => e = .returned (.string ⟨l.toArray⟩) ∧ Below B w w' := by
  obtain ⟨p, hB, v, hbk, hown, hne⟩ : ∃ p, Lib.BuilderAt 265 5 B b p (Lib.byteCells l) w := by
    rcases h with h | h
    · exact ⟨_, h⟩
    · exact ⟨_, h⟩
  have hl0 : l.length ≠ 0 := by simpa using h0
  rw [Lib.byteCells_length] at hown
  obtain ⟨g, cap, cur, rfl, hbg, hg, hnc, hcm, hcs, htake⟩ : ∃ g cap cur, v = .slice (some ⟨g, 0, none⟩) l.length cap ∧ B ≤ g ∧ w.heap[g]? = some (.cells cur 5 (0, 0)) ∧ l.length ≤ cap ∧ cap ≤ maxLen ∧ cur.size = cap * 1 ∧ cur.toList.take (l.length * 1) = Lib.byteCells l := by
    rcases hown.2 with ⟨_, hz⟩ | ⟨g, cap, cur, hv, r⟩
    · exact absurd hz hl0
    · exact ⟨g, cap, cur, hv, r⟩
  have c1 : w.drew.cell? ⟨b, 1, none⟩ = some (.slice (some ⟨g, 0, none⟩) l.length cap) := by
    have : w.drew.heap[b]? = some (.cells #[p, .slice (some ⟨g, 0, none⟩) l.length cap] 265 (0, 0)) := hbk
    rw [Lib.cell_of_heap this]; rfl
  have hSD : (Builtin.unsafeSliceData_ #[237] 298 #[.slice (some ⟨g, 0, none⟩) l.length cap]).run Tryz.prog w.drew = .ok (.pointer (some ⟨g, 0, none⟩)) w.drew :=
    Lib.run_unsafeSliceData_row _ _ _ _ _ _ (by omega)
  have hUS : (Builtin.unsafeString_ #[298, 3] 9 #[.pointer (some ⟨g, 0, none⟩), .int .i64 l.length]).run Tryz.prog w.drew = .ok (.string ⟨l.toArray⟩) (w.drew.freeze ⟨g, 0, none⟩ l.length) := by
    refine Lib.run_unsafeString_row w.drew 298 3 9 5 Tryz.underlying298 cellsByte g cur.size (by have hg' : w.drew.heap[g]? = some (.cells cur 5 (0, 0)) := hg; simp [World.shape?, hg']) l h0 (by omega) (by unfold maxLen at hcm; omega) ?_
    intro j x hx
    have := hown.cells (g := g) rfl j (.int .u8 x.toNat) (by simp [Lib.byteCells, hx])
    exact this
  go_enter Tryz.func169, Tryz.ntmps169
  go_wp2
  go_region
  all_goals (go_wp2; go_ret; exact ⟨rfl, Lib.below_freeze (Below.drew (Below.refl B w)) (p := ⟨g, 0, none⟩) hbg _⟩)

theorem unsafeString_none (W : World) (q : Option Addr) : (Builtin.unsafeString_ #[298, 3] 9 #[.pointer q, .int .i64 0]).run Tryz.prog W = .ok (.string .empty) W :=
  Lib.run_unsafeString_none W _ _ _ q

set_option maxHeartbeats 2000000 in
set_option maxRecDepth 100000 in
theorem Builder_String_nil (B b : Nat) (p : Value) (w : World) (hbk : w.heap[b]? = some (.cells #[p, .slice none 0 0] 265 (0, 0))) :
    Calls Tryz.prog 169 #[.pointer (some ⟨b, 0, none⟩)] w fun e w' => e = .returned (.string ⟨#[]⟩) ∧ Below B w w' := by
  have hUS := unsafeString_none
  have c1 : w.drew.cell? ⟨b, 1, none⟩ = some (.slice none 0 0) := by
    have : w.drew.heap[b]? = some (.cells #[p, .slice none 0 0] 265 (0, 0)) := hbk
    rw [Lib.cell_of_heap this]; rfl
  have hSD : (Builtin.unsafeSliceData_ #[237] 298 #[.slice none 0 0]).run Tryz.prog w.drew = .ok (.pointer none) w.drew := rfl
  go_enter Tryz.func169, Tryz.ntmps169
  go_wp2
  go_region
  all_goals (go_wp2; go_ret; exact ⟨rfl, Below.drew (Below.refl B w)⟩)

set_option maxHeartbeats 2000000 in
set_option maxRecDepth 100000 in
theorem Builder_String_noroom (B b g : Nat) (p : Value) (cur : Array Value) (w : World) (hBw : B ≤ w.heap.size) (hbk : w.heap[b]? = some (.cells #[p, .slice (some ⟨g, 0, none⟩) 0 0] 265 (0, 0))) (hg : w.heap[g]? = some (.cells cur 5 (0, 0))) :
    Calls Tryz.prog 169 #[.pointer (some ⟨b, 0, none⟩)] w fun e w' => e = .returned (.string ⟨#[]⟩) ∧ Below B w w' := by
  have hUS := unsafeString_none
  have hlt : b < w.heap.size := by
    rcases Nat.lt_or_ge b w.heap.size with h' | h'
    · exact h'
    · simp [Array.getElem?_eq_none h'] at hbk
  have c1 : w.drew.cell? ⟨b, 1, none⟩ = some (.slice (some ⟨g, 0, none⟩) 0 0) := by
    have : w.drew.heap[b]? = some (.cells #[p, .slice (some ⟨g, 0, none⟩) 0 0] 265 (0, 0)) := hbk
    rw [Lib.cell_of_heap this]; rfl
  have hSD : (Builtin.unsafeSliceData_ #[237] 298 #[.slice (some ⟨g, 0, none⟩) 0 0]).run Tryz.prog w.drew = .ok (.pointer (some ⟨w.drew.heap.size, 0, none⟩)) (w.drew.alloc (.view ⟨g, 0, none⟩ 5)) :=
    Lib.run_unsafeSliceData_zero w.drew _ _ 5 Tryz.underlying298 ⟨g, 0, none⟩ 0 (5, cur.size) (by have hg' : w.drew.heap[g]? = some (.cells cur 5 (0, 0)) := hg; simp [World.shape?, hg'])
  have c2 : (w.drew.alloc (.view ⟨g, 0, none⟩ 5)).cell? ⟨b, 1, none⟩ = some (.slice (some ⟨g, 0, none⟩) 0 0) := by
    have : (w.drew.alloc (.view ⟨g, 0, none⟩ 5)).heap[b]? = _ := (Lib.alloc_old w.drew _ b hlt).trans hbk
    rw [Lib.cell_of_heap this]; rfl
  have c3 : (w.alloc (.view ⟨g, 0, none⟩ 5)).drew.cell? ⟨b, 1, none⟩ = some (.slice (some ⟨g, 0, none⟩) 0 0) := c2
  have c0 : w.cell? ⟨b, 1, none⟩ = some (.slice (some ⟨g, 0, none⟩) 0 0) := c1
  go_enter Tryz.func169, Tryz.ntmps169
  go_wp2
  go_region
  all_goals (go_wp2; go_ret; exact ⟨rfl, (Below.drew (Below.refl B w)).alloc hBw _⟩)

set_option maxHeartbeats 2000000 in
set_option maxRecDepth 100000 in
theorem Builder_String_room (B b g cap : Nat) (p : Value) (w : World) (hc0 : cap ≠ 0) (hbk : w.heap[b]? = some (.cells #[p, .slice (some ⟨g, 0, none⟩) 0 cap] 265 (0, 0))) :
    Calls Tryz.prog 169 #[.pointer (some ⟨b, 0, none⟩)] w fun e w' => e = .returned (.string ⟨#[]⟩) ∧ Below B w w' := by
  have hUS := unsafeString_none
  have c1 : w.drew.cell? ⟨b, 1, none⟩ = some (.slice (some ⟨g, 0, none⟩) 0 cap) := by
    have : w.drew.heap[b]? = some (.cells #[p, .slice (some ⟨g, 0, none⟩) 0 cap] 265 (0, 0)) := hbk
    rw [Lib.cell_of_heap this]; rfl
  have hSD : (Builtin.unsafeSliceData_ #[237] 298 #[.slice (some ⟨g, 0, none⟩) 0 cap]).run Tryz.prog w.drew = .ok (.pointer (some ⟨g, 0, none⟩)) w.drew :=
    Lib.run_unsafeSliceData_row _ _ _ _ _ _ hc0
  clear hc0
  go_enter Tryz.func169, Tryz.ntmps169
  go_wp2
  go_region
  all_goals (go_wp2; go_ret; exact ⟨rfl, Below.drew (Below.refl B w)⟩)

theorem Builder_String_empty (B b : Nat) (w : World) (h : Lib.IsBuilder 265 5 B b [] w) (hBw : B ≤ w.heap.size) :
    Calls Tryz.prog 169 #[.pointer (some ⟨b, 0, none⟩)] w fun e w' => e = .returned (.string ⟨#[]⟩) ∧ Below B w w' := by
  obtain ⟨p, hB, v, hbk, hown, hne⟩ : ∃ p, Lib.BuilderAt 265 5 B b p [] w := by
    rcases h with h | h
    · exact ⟨_, h⟩
    · exact ⟨_, h⟩
  rcases hown.2 with ⟨rfl, _⟩ | ⟨g, cap, cur, rfl, hbg, hg, _, _, _, _⟩
  · exact Builder_String_nil B b p w hbk
  · by_cases hc0 : cap = 0
    · subst hc0
      exact Builder_String_noroom B b g p cur w hBw hbk hg
    · exact Builder_String_room B b g cap p w hc0 hbk

/-- String: whatever the builder holds. -/
theorem Builder_String (B b : Nat) (l : List UInt8) (w : World) (h : Lib.IsBuilder 265 5 B b (Lib.byteCells l) w) (hBw : B ≤ w.heap.size) :
    Calls Tryz.prog 169 #[.pointer (some ⟨b, 0, none⟩)] w fun e w' => e = .returned (.string (S l)) ∧ Below B w w' := by
  cases l with
  | nil => exact Builder_String_empty B b w h hBw
  | cons x r => exact Builder_String_some B b (x :: r) w h (by simp)
end Go.Proofs.YtilfcikhipadpaaGreatDoor
end

section
/- The package fields over this program: each function returns what the words of the base say. Conditions: texts below 2^47 bytes. -/
set_option linter.unusedVariables false
namespace Go.Proofs.YtilfcikhipadpaaGreatDoor
open Go.RowKit

theorem whole_any (s : ByteArray) (i many : Int) (w : World) (hs : s.size ≤ maxLen) (h1 : -9223372036854775808 ≤ i ∧ i ≤ 9223372036854775807) (h2 : 0 ≤ many ∧ many ≤ 9223372036854775807) :
    Calls Tryz.prog 199 #[.string s, .int .i64 i, .int .i64 many] w fun e w' => e = .returned (.bool (has s.size i many)) ∧ w = w' := by
  unfold maxLen at hs
  obtain ⟨h1a, h1b⟩ := h1
  obtain ⟨h2a, h2b⟩ := h2
  by_cases ha : 0 ≤ i
  · by_cases hc : many ≤ s.size
    · by_cases hd : i ≤ s.size - many
      · go_enter Tryz.func199, Tryz.ntmps199
        go_wp2
        go_ret
        exact ⟨ret_bool (by simp [has]; omega), rfl⟩
      · go_enter Tryz.func199, Tryz.ntmps199
        go_wp2
        go_ret
        exact ⟨ret_bool (by simp [has]; omega), rfl⟩
    · go_enter Tryz.func199, Tryz.ntmps199
      go_wp2
      go_ret
      exact ⟨ret_bool (by simp [has]; omega), rfl⟩
  · go_enter Tryz.func199, Tryz.ntmps199
    go_wp2
    go_ret
    exact ⟨ret_bool (by simp [has]; omega), rfl⟩

theorem Get16_in (s : ByteArray) (k : Nat) (w : World) (hs : s.size ≤ maxLen) (h : k + 2 ≤ s.size) :
    Calls Tryz.prog 165 #[.string s, .int .i64 k] w (Quiet (.tuple #[.int .u16 (be16 (L s) k), .bool true]) w) := by
  have hs' := hs
  unfold maxLen at hs'
  have hx : has s.size k 2 = true := by simp [has]; omega
  have hw := whole_any s k 2 w hs ⟨by omega, by omega⟩ ⟨by omega, by omega⟩
  rw [hx] at hw
  have e1 := getElem_L s k (by omega)
  have e2 := getElem_L s (k + 1) (by omega)
  have fin : bits BinOp.or IntKind.u16 (IntKind.u16.wrap (IntKind.u16.wrap (s[k]'(by omega)).toNat * 256)) (IntKind.u16.wrap (s[k + 1]'(by omega)).toNat) = be16 (L s) k := by
    have b1 := at_bd (L s) k
    have b2 := at_bd (L s) (k + 1)
    rw [e1, e2]
    exact or16w _ _ b1.1 b1.2 b2.1 b2.2
  have HF := hide fin
  clear fin e1 e2 hx
  have k1 : (0 : Int) ≤ (k : Int) := by omega
  have k2 : (k : Int) < (s.size : Int) := by omega
  have k3 : (0 : Int) ≤ (k : Int) + 1 := by omega
  have k4 : (k : Int) + 1 < (s.size : Int) := by omega
  have k5 : k < s.size := by omega
  have k6 : k + 1 < s.size := by omega
  have k7 : ((k : Int) + 1).toNat = k + 1 := by omega
  have k8 : IntKind.i64.wrap ((k : Int) + 1) = (k : Int) + 1 := IntWalk.i64_in _ (by omega)
  go_enter Tryz.func165, Tryz.ntmps165
  go_wp2_with (go_at_call 199; refine hw.mono ?_; rintro e w' ⟨rfl, rfl⟩)
  go_quiet (fail)
  go_wp2
  go_ret2
  exact ⟨ret_two (v_int HF.out) rfl, nq, rfl⟩

theorem Get16_out (s : ByteArray) (i : Int) (w : World) (hs : s.size ≤ maxLen) (h1 : -9223372036854775808 ≤ i ∧ i ≤ 9223372036854775807) (h : has s.size i 2 = false) :
    Calls Tryz.prog 165 #[.string s, .int .i64 i] w (Quiet (.tuple #[.int .u16 0, .bool false]) w) := by
  have hw := whole_any s i 2 w hs h1 ⟨by omega, by omega⟩
  rw [h] at hw
  clear h
  go_enter Tryz.func165, Tryz.ntmps165
  go_wp2_with (go_at_call 199; refine hw.mono ?_; rintro e w' ⟨rfl, rfl⟩)
  go_ret2
  exact ⟨rfl, 0, rfl⟩

theorem get16_nat {l : List UInt8} {k : Nat} (h : k + 2 ≤ l.length) : get16 l k = be16 l k := by
  unfold get16; rw [if_pos (by simp [has]; omega)]; simp
theorem get32_nat {l : List UInt8} {k : Nat} (h : k + 4 ≤ l.length) : get32 l k = be32 l k := by
  unfold get32; rw [if_pos (by simp [has]; omega)]; simp

/-- Get16, at any place -/
theorem Get16_q (s : ByteArray) (i : Int) (w : World) (hs : s.size ≤ maxLen) (h1 : -9223372036854775808 ≤ i ∧ i ≤ 9223372036854775807) :
    Calls Tryz.prog 165 #[.string s, .int .i64 i] w (Quiet (.tuple #[.int .u16 (get16 (L s) i), .bool (has s.size i 2)]) w) := by
  by_cases h : has s.size i 2 = true
  · have h' := h
    simp [has] at h'
    obtain ⟨k, rfl⟩ : ∃ k : Nat, i = k := ⟨i.toNat, by omega⟩
    have h2 : k + 2 ≤ (L s).length := by rw [L_length]; omega
    rw [get16_nat h2, h]
    exact Get16_in s k w hs (by omega)
  · have h' : has s.size i 2 = false := by simpa using h
    have hg : get16 (L s) i = 0 := by unfold get16; rw [L_length, if_neg h]
    rw [hg, h']
    exact Get16_out s i w hs h1 h'
theorem Get16 (s : ByteArray) (i : Int) (w : World) (hs : s.size ≤ maxLen) (h1 : -9223372036854775808 ≤ i ∧ i ≤ 9223372036854775807) :
    Calls Tryz.prog 165 #[.string s, .int .i64 i] w (Ret (.tuple #[.int .u16 (get16 (L s) i), .bool (has s.size i 2)]) w) :=
  (Get16_q s i w hs h1).mono fun _ _ h => h.ret

theorem Get32_in (s : ByteArray) (k : Nat) (w : World) (hs : s.size ≤ maxLen) (h : k + 4 ≤ s.size) :
    Calls Tryz.prog 178 #[.string s, .int .i64 k] w (Quiet (.tuple #[.int .u32 (be32 (L s) k), .bool true]) w) := by
  have hs' := hs
  unfold maxLen at hs'
  have hx : has s.size k 4 = true := by simp [has]; omega
  have hw := whole_any s k 4 w hs ⟨by omega, by omega⟩ ⟨by omega, by omega⟩
  rw [hx] at hw
  have fin : bits BinOp.or IntKind.u32 (be16 (L s) k * 65536) (be16 (L s) (k + 2)) = be32 (L s) k := by
    have b1 := be16_bd (L s) k
    have b2 := be16_bd (L s) (k + 2)
    rw [or32 _ _ (by omega) (by omega) (by omega) (by omega)]; rfl
  have HF := hide fin
  clear fin hx
  obtain ⟨b1, b2⟩ := be16_bd (L s) k
  obtain ⟨b3, b4⟩ := be16_bd (L s) (k + 2)
  go_enter Tryz.func178, Tryz.ntmps178
  go_wp2_with (go_at_call 199; refine hw.mono ?_; rintro e w' ⟨rfl, rfl⟩)
  refine (Get16_in s k _ hs (by omega)).mono ?_
  rintro e w1 ⟨rfl, n1, rfl⟩
  go_wp2_with fail
  rw [show ((k : Int) + 2) = ((k + 2 : Nat) : Int) from by omega]
  refine (Get16_in s (k + 2) _ hs (by omega)).mono ?_
  rintro e w1 ⟨rfl, n2, rfl⟩
  go_wp2
  go_ret2
  exact ⟨ret_two (v_int HF.out) rfl, n1 + n2, rfl⟩

theorem Get32_out (s : ByteArray) (i : Int) (w : World) (hs : s.size ≤ maxLen) (h1 : -9223372036854775808 ≤ i ∧ i ≤ 9223372036854775807) (h : has s.size i 4 = false) :
    Calls Tryz.prog 178 #[.string s, .int .i64 i] w (Quiet (.tuple #[.int .u32 0, .bool false]) w) := by
  have hw := whole_any s i 4 w hs h1 ⟨by omega, by omega⟩
  rw [h] at hw
  clear h
  go_enter Tryz.func178, Tryz.ntmps178
  go_wp2_with (go_at_call 199; refine hw.mono ?_; rintro e w' ⟨rfl, rfl⟩)
  go_ret2
  exact ⟨rfl, 0, rfl⟩

/-- Get32, at any place -/
theorem Get32_q (s : ByteArray) (i : Int) (w : World) (hs : s.size ≤ maxLen) (h1 : -9223372036854775808 ≤ i ∧ i ≤ 9223372036854775807) :
    Calls Tryz.prog 178 #[.string s, .int .i64 i] w (Quiet (.tuple #[.int .u32 (get32 (L s) i), .bool (has s.size i 4)]) w) := by
  by_cases h : has s.size i 4 = true
  · have h' := h
    simp [has] at h'
    obtain ⟨k, rfl⟩ : ∃ k : Nat, i = k := ⟨i.toNat, by omega⟩
    have h2 : k + 4 ≤ (L s).length := by rw [L_length]; omega
    rw [get32_nat h2, h]
    exact Get32_in s k w hs (by omega)
  · have h' : has s.size i 4 = false := by simpa using h
    have hg : get32 (L s) i = 0 := by unfold get32; rw [L_length, if_neg h]
    rw [hg, h']
    exact Get32_out s i w hs h1 h'
theorem Get32 (s : ByteArray) (i : Int) (w : World) (hs : s.size ≤ maxLen) (h1 : -9223372036854775808 ≤ i ∧ i ≤ 9223372036854775807) :
    Calls Tryz.prog 178 #[.string s, .int .i64 i] w (Ret (.tuple #[.int .u32 (get32 (L s) i), .bool (has s.size i 4)]) w) :=
  (Get32_q s i w hs h1).mono fun _ _ h => h.ret

/-! ### With -/
theorem strCells_L (s : ByteArray) : Lib.strCells s = Lib.byteCells (L s) := by
  unfold Lib.strCells Lib.byteCells L; rfl

theorem With_in (s : ByteArray) (k : Nat) (p : ByteArray) (w : World) (hs : s.size ≤ 140737488351232) (h : k + p.size ≤ s.size) :
    Calls Tryz.prog 167 #[.string s, .int .i64 k, .string p] w (Ret (.tuple #[.string (S ((L s).take k ++ (L p ++ (L s).drop (k + p.size)))), .bool true]) w) := by
  have hx : has s.size k p.size = true := by simp [has]; omega
  have hw := fun w => whole_any s k p.size w (by unfold maxLen; omega) ⟨by omega, by omega⟩ ⟨by omega, by omega⟩
  rw [hx] at hw
  have e1 : Lib.strCells (s.extract 0 k) = Lib.byteCells ((L s).take k) := by rw [strCells_L, L_extract]; simp
  have e2 : Lib.strCells (s.extract (k + p.size) s.size) = Lib.byteCells ((L s).drop (k + p.size)) := by
    rw [strCells_L, L_extract, List.take_of_length_le (by rw [List.length_drop, L_length]; omega)]
  have e3 := strCells_L p
  have z1 : (s.extract 0 k).size = k := by rw [← L_length, L_extract]; simp [L_length]; omega
  have z2 : (s.extract (k + p.size) s.size).size = s.size - (k + p.size) := by rw [← L_length, L_extract]; simp [L_length]
  have E1 := hide e1; have E2 := hide e2; have E3 := hide e3; have Z1 := hide z1; have Z2 := hide z2
  clear e1 e2 e3 z1 z2 hx
  have k1 : (k : Int) ≤ (s.size : Int) := by omega
  have k2 : (k : Int) + (p.size : Int) ≤ (s.size : Int) := by omega
  have k3 : k ≤ s.size := by omega
  go_enter Tryz.func167, Tryz.ntmps167
  go_wp2_with (go_at_call 199; refine (hw _).mono ?_; rintro e w' ⟨rfl, rfl⟩)
  refine (Builder_WriteString w.heap.size w.heap.size [] (s.extract 0 k) _ (Lib.fresh_isBuilder _ _ w) (by rw [Z1.out]; simp; omega) (by simp)).mono ?_
  rintro e w1 ⟨rfl, hB1, hb1⟩
  rw [List.nil_append, E1.out] at hB1
  have hb1 := (fresh_below w _).trans hb1
  have l1 := hb1.size
  go_wp2_with fail
  refine (Builder_WriteString w.heap.size w.heap.size _ p _ (.inr hB1) (by simp [Lib.byteCells_length]; omega) l1).mono ?_
  rintro e w2 ⟨rfl, hB2, hb2⟩
  rw [E3.out] at hB2
  have hb2 := hb1.trans hb2
  have l2 := hb2.size
  go_wp2_with fail
  refine (Builder_WriteString w.heap.size w.heap.size _ (s.extract (k + p.size) s.size) _ (.inr hB2) (by rw [Z2.out]; simp [Lib.byteCells_length, L_length]; omega) l2).mono ?_
  rintro e w3 ⟨rfl, hB3, hb3⟩
  rw [E2.out] at hB3
  have hb3 := hb2.trans hb3
  have l3 := hb3.size
  go_wp2_with fail
  refine (Builder_String w.heap.size w.heap.size ((L s).take k ++ (L p ++ (L s).drop (k + p.size))) _ (.inr (by simpa [Lib.byteCells] using hB3)) l3).mono ?_
  rintro e w4 ⟨rfl, hb4⟩
  have hb4 := hb3.trans hb4
  go_wp2_with fail
  go_ret2
  exact ⟨rfl, hb4⟩

theorem With_out (s : ByteArray) (i : Int) (p : ByteArray) (w : World) (hs : s.size ≤ maxLen) (hp : p.size ≤ maxLen) (h1 : -9223372036854775808 ≤ i ∧ i ≤ 9223372036854775807) (h : has s.size i p.size = false) :
    Calls Tryz.prog 167 #[.string s, .int .i64 i, .string p] w (Ret (.tuple #[.string (S []), .bool false]) w) := by
  unfold maxLen at hp
  have hw := whole_any s i p.size w hs h1 ⟨by omega, by omega⟩
  rw [h] at hw
  clear h
  go_enter Tryz.func167, Tryz.ntmps167
  go_wp2_with (go_at_call 199; refine hw.mono ?_; rintro e w' ⟨rfl, rfl⟩)
  go_ret2
  exact ⟨rfl, Below.refl _ _⟩

/-- With, at any place -/
theorem With (s : ByteArray) (i : Int) (p : ByteArray) (w : World) (hs : s.size ≤ 140737488351232) (hp : p.size ≤ 140737488351232) (h1 : -9223372036854775808 ≤ i ∧ i ≤ 9223372036854775807) :
    Calls Tryz.prog 167 #[.string s, .int .i64 i, .string p] w (Ret (.tuple #[.string (S (putAt (L s) i (L p))), .bool (has s.size i p.size)]) w) := by
  by_cases h : has s.size i p.size = true
  · have h' := h
    simp [has] at h'
    obtain ⟨k, rfl⟩ : ∃ k : Nat, i = k := ⟨i.toNat, by omega⟩
    have hg : putAt (L s) k (L p) = (L s).take k ++ (L p ++ (L s).drop (k + p.size)) := by unfold putAt; rw [L_length, L_length, if_pos h]; rfl
    rw [hg, h]
    exact With_in s k p w hs (by omega)
  · have h' : has s.size i p.size = false := by simpa using h
    have hg : putAt (L s) i (L p) = [] := by unfold putAt; rw [L_length, L_length, if_neg h]
    rw [hg, h']
    exact With_out s i p w (by unfold maxLen; omega) (by unfold maxLen; omega) h1 h'

/-! ### Word, Put16, Put32 -/
def ints16 (l : List Int) : List Value := l.map (Value.int .u16)
theorem ints16_at {l : List Int} {j : Nat} (h : j < l.length) : (ints16 l)[j]? = some (.int .u16 (l.getD j 0)) := by
  simp [ints16, List.getD_eq_getElem?_getD, List.getElem?_eq_getElem h]
theorem take_snoc_int (l : List Int) (k : Nat) (h : k < l.length) : l.take (k + 1) = l.take k ++ [l.getD k 0] := by
  rw [List.take_succ_eq_append_getElem h, List.getD_eq_getElem?_getD, List.getElem?_eq_getElem h]; rfl
theorem byteCells_put16 (l : List UInt8) (n c d : Int) (h0 : 0 ≤ n) (hc : c = n / 256 % 256) (hd : d = n % 256) : Lib.byteCells l ++ [.int .u8 c] ++ [.int .u8 d] = Lib.byteCells (l ++ put16 n) := by
  subst hc hd
  simp only [Lib.byteCells, put16, List.map_append, List.map_cons, List.map_nil, byt_int n h0, byt_int (n / 256) (by omega), List.append_assoc, List.cons_append, List.nil_append]

theorem getD_mem {l : List Int} {k : Nat} (h : k < l.length) : l.getD k 0 ∈ l := by
  rw [List.getD_eq_getElem?_getD, List.getElem?_eq_getElem h]; exact List.getElem_mem h

set_option maxHeartbeats 400000 in
theorem Word (A : Option Addr) (n c : Nat) (l : List Int) (w : World) (hr : Row w w.heap.size A n (ints16 l)) (hb : ∀ x ∈ l, 0 ≤ x ∧ x ≤ 65535) (hn : n ≤ 17592186044416) :
    Calls Tryz.prog 111 #[.slice A n c] w (Ret (.string (S (putW l))) w) := by
  have hl : l.length = n := by simpa [ints16] using hr.1
  have hfr := Lib.fresh_isBuilder 265 5 w
  have hbel := fresh_below w (.cells #[.pointer none, .slice none 0 0] 265)
  have HB := hide hb
  have HL := hide hl
  clear hb hl
  have hn1 : n ≤ 9223372036854775807 := by omega
  go_enter Tryz.func111, Tryz.ntmps111
  go_wp2
  go_loopw [8] (fun i wr => ∃ k : Nat, k ≤ n ∧ i = .int .i64 k ∧ Lib.IsBuilder 265 5 w.heap.size w.heap.size (Lib.byteCells (putW (l.take k))) wr ∧ Below w.heap.size w wr) (fun i _ => n - (intOf i).toNat)
  case atStart => exact ⟨0, Nat.zero_le _, rfl, hfr, hbel⟩
  case round =>
    obtain ⟨k, hk, rfl, hB, hbl⟩ := hrel
    have l0 := hbl.size
    by_cases hlt : k < n
    · obtain ⟨b, o, rfl, hbo, hc⟩ := hr.at_ (by omega)
      have hcell : wr.cell? ⟨b, o + k, none⟩ = some (.int .u16 (l.getD k 0)) := (hbl.cell (p := ⟨b, o + k, none⟩) hbo).trans (hc k _ (ints16_at (by rw [HL.out]; exact hlt)))
      obtain ⟨x, hx⟩ : ∃ x, x = l.getD k 0 := ⟨_, rfl⟩
      rw [← hx] at hcell
      have hxb : 0 ≤ x ∧ x ≤ 65535 := by rw [hx]; exact HB.out _ (getD_mem (by rw [HL.out]; exact hlt))
      obtain ⟨hx0, hx1⟩ := hxb
      have HX := hide hx
      clear hx hc
      have hlen : (putW (l.take k)).length = 2 * k := by rw [putW_length, List.length_take, HL.out]; omega
      have HLen := hide hlen
      clear hlen
      go_wp2_with fail
      refine (Builder_WriteByte _ _ _ _ _ hB (by simp [Lib.byteCells_length, HLen.out]; omega) l0).mono ?_
      rintro e w1 ⟨rfl, hB1, hb1⟩
      have hb1 := hbl.trans hb1
      have l1 := hb1.size
      clear hB
      go_wp2_with fail
      refine (Builder_WriteByte _ _ _ _ _ (.inr hB1) (by simp [Lib.byteCells_length, HLen.out]; omega) l1).mono ?_
      rintro e w2 ⟨rfl, hB2, hb2⟩
      have hb2 := hb1.trans hb2
      rw [byteCells_put16 _ x _ _ hx0 (by omega) (by first | omega | (rw [IntKind.wrap_u8']))] at hB2
      clear hB1
      have hB3 : Lib.IsBuilder 265 5 w.heap.size w.heap.size (Lib.byteCells (putW (l.take (k + 1)))) w2 := by
        rw [take_snoc_int l k (by rw [HL.out]; exact hlt), putW_append, ← HX.out]
        exact .inr (by simpa [putW] using hB2)
      clear hB2
      go_wp2_with fail
      go_roundw
      case rel => exact ⟨k + 1, by omega, by go_num, hB3, hb2⟩
      case measure => simp [intOf]; omega
    · obtain rfl : k = n := by omega
      rw [List.take_of_length_le (by rw [HL.out]; exact Nat.le_refl _)] at hB
      go_wp2_with fail
      refine (Builder_String _ _ _ _ hB l0).mono ?_
      rintro e w1 ⟨rfl, hb1⟩
      have hb1 := hbl.trans hb1
      go_wp2_with fail
      go_ret
      exact ⟨rfl, hb1⟩

theorem Put16 (n : Int) (w : World) (h0 : 0 ≤ n) (h1 : n ≤ 65535) :
    Calls Tryz.prog 157 #[.int .u16 n] w (Ret (.string (S (put16 n))) w) := by
  go_enter Tryz.func157, Tryz.ntmps157
  go_wp2_with fail
  refine (Word _ 1 _ [n] _ (Row.freshN w _ _ _ _ rfl rfl) (by simp; omega) (by omega)).mono ?_
  rintro e w1 ⟨rfl, hb1⟩
  have hb1 := bstep (fresh_below w _) hb1
  go_wp2_with fail
  go_ret
  exact ⟨ret_str (by simp [putW]), hb1⟩

theorem Put32 (n : Int) (w : World) (h0 : 0 ≤ n) (h1 : n ≤ 4294967295) :
    Calls Tryz.prog 196 #[.int .u32 n] w (Ret (.string (S (put32 n))) w) := by
  have q1 : n / 65536 ≤ 65535 := by omega
  have q2 : 0 ≤ n / 65536 := by omega
  have q3 : n % 65536 ≤ 65535 := by omega
  have q4 : 0 ≤ n % 65536 := by omega
  have q5 : IntKind.u16.wrap n = n % 65536 := by rw [IntKind.wrap_u16]
  go_enter Tryz.func196, Tryz.ntmps196
  go_wp2_with fail
  refine (Word _ 2 _ [n / 65536, n % 65536] _ (Row.freshN w _ _ _ _ rfl rfl) (by simp; omega) (by omega)).mono ?_
  rintro e w1 ⟨rfl, hb1⟩
  have hb1 := bstep (fresh_below w _) hb1
  go_wp2_with fail
  go_ret
  exact ⟨ret_str (by simp [putW, put32]), hb1⟩
end Go.Proofs.YtilfcikhipadpaaGreatDoor
end

section
/- The package sums over this program: Add, the words of a text, Sum, Holds, Update, Updates. Conditions: texts below 2^46 bytes. -/
set_option linter.unusedVariables false
namespace Go.Proofs.YtilfcikhipadpaaGreatDoor
open Go.RowKit Go.Shelf
attribute [local go_sem] Oper.semAt_some

/-- two numbers, added, what runs over coming in again -/
def add1 (a b : Int) : Int := if 65535 < a + b then a + b - 65535 else a + b
theorem add1_bd {a b : Int} (h0 : 0 ≤ a ∧ a ≤ 65535) (h1 : 0 ≤ b ∧ b ≤ 65535) : 0 ≤ add1 a b ∧ add1 a b ≤ 65535 := by
  unfold add1; split <;> omega
/-- a text's words; an odd one has a byte 0 behind it -/
def words : List UInt8 → List Int
  | [] => []
  | [a] => [(a.toNat : Int) * 256]
  | a :: b :: t => ((a.toNat : Int) * 256 + (b.toNat : Int)) :: words t
def fold1 (n : Int) (l : List Int) : Int := l.foldl add1 n
theorem words_bd : ∀ (l : List UInt8), ∀ x ∈ words l, 0 ≤ x ∧ x ≤ 65535
  | [], x, h => by cases h
  | [a], x, h => by
    simp [words] at h; subst h
    have := a.toNat_lt; omega
  | a :: b :: t, x, h => by
    rcases List.mem_cons.1 h with rfl | h
    · have := a.toNat_lt; have := b.toNat_lt; omega
    · exact words_bd t x h
theorem fold1_bd : ∀ (l : List Int) (n : Int), 0 ≤ n ∧ n ≤ 65535 → (∀ x ∈ l, 0 ≤ x ∧ x ≤ 65535) → 0 ≤ fold1 n l ∧ fold1 n l ≤ 65535
  | [], n, h, _ => h
  | x :: l, n, h, hl => fold1_bd l (add1 n x) (add1_bd h (hl x (by simp))) (fun y hy => hl y (by simp [hy]))
theorem fold1_append (n : Int) (a b : List Int) : fold1 n (a ++ b) = fold1 (fold1 n a) b := by simp [fold1]
/-- the text with a byte 0 behind it, if it is odd -/
def even (l : List UInt8) : List UInt8 := if l.length % 2 = 1 then l ++ [0] else l
theorem even_cons (a b : UInt8) (t : List UInt8) : even (a :: b :: t) = a :: b :: even t := by
  have h : (t.length + 1 + 1) % 2 = t.length % 2 := by omega
  unfold even
  simp only [List.length_cons, h]
  split <;> rfl
theorem even_length : ∀ (l : List UInt8), (even l).length = 2 * (words l).length
  | [] => rfl
  | [a] => rfl
  | a :: b :: t => by
    rw [even_cons]
    have := even_length t
    simp only [words, List.length_cons, this]; omega
theorem even_word : ∀ (l : List UInt8) (k : Nat), k < (words l).length → be16 (even l) (2 * k) = (words l).getD k 0
  | [], k, h => by simp [words] at h
  | [a], k, h => by
    have : k = 0 := by simp [words] at h; omega
    subst this
    show ((a.toNat : Int)) * 256 + 0 = _
    simp [words]
  | a :: b :: t, 0, h => by
    rw [even_cons]; rfl
  | a :: b :: t, k + 1, h => by
    rw [even_cons]
    have := even_word t k (by simpa [words] using h)
    simp only [words, List.getD_cons_succ]
    rw [← this, show 2 * (k + 1) = 2 * k + 2 from by omega]
    rfl

theorem Add (a b : Int) (w : World) (ha : 0 ≤ a ∧ a ≤ 65535) (hb : 0 ≤ b ∧ b ≤ 65535) :
    Calls Tryz.prog 200 #[.int .u16 a, .int .u16 b] w fun e w' => e = .returned (.int .u16 (add1 a b)) ∧ w = w' := by
  obtain ⟨a0, a1⟩ := ha
  obtain ⟨b0, b1⟩ := hb
  have q1 : bits .and .u32 (a + b) 65535 = (a + b) % 65536 := by
    rw [u32_and _ _ (by omega) (by omega) (by omega) (by omega)]
    show ((((a + b).toNat &&& 65535 : Nat)) : Int) = _
    rw [show (65535 : Nat) = 2 ^ 16 - 1 from rfl, Nat.and_two_pow_sub_one_eq_mod]
    omega
  have q2 : (a + b) % 65536 + (a + b) / 65536 = add1 a b := by unfold add1; split <;> omega
  have Q2 := hide q2
  clear q2
  go_enter Tryz.func200, Tryz.ntmps200
  go_wp2
  go_ret
  exact ⟨ret_int Q2.out, rfl⟩

/-- words(s): a box that holds the text, and the iterator over it -/
theorem words_any (s : ByteArray) (w : World) :
    Calls Tryz.prog 164 #[.string s] w fun e w' => e = .returned (.func (.func 198) #[] #[.pointer (some ⟨w.heap.size, 0, none⟩)]) ∧ w' = w.alloc (.cells #[.string s] 9) := by
  go_enter Tryz.func164, Tryz.ntmps164
  go_wp2
  go_ret
  exact ⟨rfl, rfl⟩

theorem take_snoc_i {xs : List Int} {k : Nat} (h : k < xs.length) : xs.take k ++ [xs.getD k 0] = xs.take (k + 1) := (take_snoc_int xs k h).symm
theorem split_at {xs : List Int} {k : Nat} (h : k < xs.length) : xs = xs.take k ++ xs.getD k 0 :: xs.drop (k + 1) := by
  rw [List.getD_eq_getElem?_getD, List.getElem?_eq_getElem h]
  simp [← List.drop_eq_getElem_cons h]

set_option maxHeartbeats 1000000 in
theorem words1_stops (s : ByteArray) (w : World) (B : Nat) (hs : s.size ≤ 140737488351232) (hB : Boxed w B 9 (.string s)) :
    SeqAll Fence.wide 2 Tryz.prog 198 #[.pointer (some ⟨B, 0, none⟩)] (fun x : Int => #[.int .u16 x]) B (words (L s)) w := by
  intro l J W hbw hJ hJB hY h0
  have hBW : Boxed W B 9 (.string s) := (hbw.block B hB.lt).trans hB
  have hd : ∀ st A n, J st A → J st (A.drewN n) := fun st A n h => hJ st A (A.drewN n) none h ⟨rfl, rfl, rfl, Nat.le_refl _, fun _ _ _ => rfl⟩ (fun r e => by cases e)
  have hc := hBW.cell
  have hf := hBW.frozen
  have HY := hide hY
  have HD := hide hd
  clear hY hd hJ hbw
  obtain ⟨xs, hxs⟩ : ∃ xs, xs = words (L s) := ⟨_, rfl⟩
  obtain ⟨t, ht⟩ : ∃ t, t = S (even (L s)) := ⟨_, rfl⟩
  have lt : L t = even (L s) := by rw [ht, L_S]
  have zt : t.size = 2 * xs.length := by rw [← L_length, lt, even_length, hxs]
  have hm : t.size ≤ 140737488351233 := by
    rw [← L_length, lt]; unfold even; split
    · rw [List.length_append, L_length]; simp; omega
    · rw [L_length]; omega
  have hw : ∀ k, k < xs.length → be16 (L t) (2 * k) = xs.getD k 0 := fun k hk => by rw [lt, hxs]; exact even_word _ k (by rw [← hxs]; exact hk)
  have hbd : ∀ x ∈ xs, 0 ≤ x ∧ x ≤ 65535 := by rw [hxs]; exact words_bd _
  rw [← hxs] at HY ⊢
  have HW := hide hw
  have HBD := hide hbd
  have HXS := hide hxs
  have start : (J [] W ∧ Boxed W B 9 (.string t) ∧ s.size % 2 = 0) ∨ (J [] (W.setCell ⟨B, 0, none⟩ (.string (s ++ { data := #[0] }))) ∧ Boxed (W.setCell ⟨B, 0, none⟩ (.string (s ++ { data := #[0] }))) B 9 (.string t) ∧ s.size % 2 = 1) := by
    by_cases hodd : s.size % 2 = 1
    · right
      refine ⟨hJB _ _ _ h0, ?_, hodd⟩
      have e : s ++ { data := #[0] } = t := L_inj (by rw [L_append, lt]; unfold even; rw [if_pos (by rw [L_length]; exact hodd)]; rfl)
      rw [e]
      exact hBW.set _
    · left
      have e : s = t := L_inj (by rw [lt]; unfold even; rw [if_neg (by rw [L_length]; exact hodd)])
      exact ⟨h0, by rw [← e]; exact hBW, by omega⟩
  clear hw hbd hxs ht lt hJB h0
  rcases start with ⟨hJ0, hB0, hodd⟩ | ⟨hJ0, hB0, hodd⟩
  all_goals
    have hlt : s.size ≤ 140737488351232 := hs
    refine callsIn_of_wp Tryz.func198 rfl trivial ?_ rfl
    simp only [Tryz.ntmps198, List.size_toArray, List.length_cons, List.length_nil, Nat.reduceAdd, Nat.reduceSub, Array.replicate_succ, Array.replicate_zero, List.push_toArray, List.append_toArray, List.nil_append, List.cons_append]
    gi_wp2
    gi_loopw [3] (fun i wr => ∃ k : Nat, k ≤ xs.length ∧ i = .int .i64 (2 * (k : Int)) ∧ J (xs.take k) wr ∧ Boxed wr B 9 (.string t)) (fun i _ => 2 * xs.length + 2 - (intOf i).toNat)
    case atStart => exact ⟨0, Nat.zero_le _, rfl, hJ0, hB0⟩
    case round =>
      obtain ⟨k, hk, rfl, hJk, hBk⟩ := hrel
      have hck := hBk.cell
      by_cases hlt : k < xs.length
      · obtain ⟨x, hx⟩ : ∃ x, x = xs.getD k 0 := ⟨_, rfl⟩
        have e1 := HW.out k hlt
        have hsp := split_at hlt
        obtain ⟨x0, x1⟩ := HBD.out _ (getD_mem hlt)
        have hsn := take_snoc_i hlt
        rw [← hx] at e1 hsp x0 x1 hsn
        have E1 := hide e1; have HSN := hide hsn; have HSP := hide hsp
        clear e1 hsn hsp hx
        gi_wp2_with fail
        refine ⟨trivial, ?_⟩
        rw [show 2 * (k : Int) = ((2 * k : Nat) : Int) from by omega]
        refine (callsIn_wide.2 (Get16_in t (2 * k) _ (by unfold maxLen; omega) (by omega))).mono ?_
        rintro e w1 ⟨rfl, n1, rfl⟩
        rw [E1.out]
        obtain ⟨fn, tmps, assign, body, hy, hR⟩ := HY.out (xs.take k) x (xs.drop (k + 1)) (wr.drewN n1) HSP.out (HD.out _ _ _ hJk)
        gi_wp2
        refine hR.mono ?_
        rintro e W' ⟨rfl, hJ', hk'⟩
        have hB' : Boxed W' B 9 (.string t) := hk'.trans hBk
        rw [HSN.out] at hJ'
        gi_wp2
        go_roundw
        case rel => exact ⟨k + 1, by omega, by go_num, hJ', hB'⟩
        case measure => simp [intOf]; omega
      · obtain rfl : k = xs.length := by omega
        rw [List.take_length] at hJk
        have hh : has t.size (2 * (xs.length : Int)) 2 = false := has_false (by omega)
        have hg : get16 (L t) (2 * (xs.length : Int)) = 0 := by unfold get16; rw [L_length, hh]; rfl
        have c1 := fun w => Get16_q t (2 * (xs.length : Int)) w (by unfold maxLen; omega) (by omega)
        rw [hh, hg] at c1
        have C1 := hide c1
        clear hh hg c1
        gi_wp2_with fail
        refine ⟨trivial, ?_⟩
        refine (callsIn_wide.2 (C1.out _)).mono ?_
        rintro e w1 ⟨rfl, n1, rfl⟩
        gi_wp2_with fail
        refine ⟨fun _ h => (by cases h), ?_⟩
        gi_wp2
        refine bodyPost_ret (results_none rfl _ _ _) rfl ?_
        exact ⟨⟨_, rfl⟩, HD.out _ _ _ hJk⟩

/-- the sum of some texts -/
def sumL (ls : List (List UInt8)) : Int := 65535 - fold1 0 (ls.flatMap words)
theorem flat_bd (ls : List (List UInt8)) : ∀ x ∈ ls.flatMap words, 0 ≤ x ∧ x ≤ 65535 := by
  intro x hx
  obtain ⟨l, _, hl⟩ := List.mem_flatMap.1 hx
  exact words_bd l x hl
theorem take_snoc_s (l : List ByteArray) (k : Nat) (h : k < l.length) : l.take (k + 1) = l.take k ++ [l.getD k ByteArray.empty] := by
  rw [List.take_succ_eq_append_getElem h, List.getD_eq_getElem?_getD, List.getElem?_eq_getElem h]; rfl
theorem strs_at {l : List ByteArray} {j : Nat} (h : j < l.length) : (l.map Value.string)[j]? = some (.string (l.getD j ByteArray.empty)) := by
  simp [List.getD_eq_getElem?_getD, List.getElem?_eq_getElem h]
theorem getD_mem_s {l : List ByteArray} {k : Nat} (h : k < l.length) : l.getD k ByteArray.empty ∈ l := by
  rw [List.getD_eq_getElem?_getD, List.getElem?_eq_getElem h]; exact List.getElem_mem h
/-- what the first k texts come to -/
def part (ss : List ByteArray) (k : Nat) : Int := fold1 0 ((ss.take k).flatMap fun s => words (L s))
theorem part_bd (ss : List ByteArray) (k : Nat) : 0 ≤ part ss k ∧ part ss k ≤ 65535 :=
  fold1_bd _ 0 (by omega) (fun x hx => by
    obtain ⟨l, _, hl⟩ := List.mem_flatMap.1 hx
    exact words_bd _ x hl)
theorem part_succ (ss : List ByteArray) (k : Nat) (h : k < ss.length) : part ss (k + 1) = fold1 (part ss k) (words (L (ss.getD k ByteArray.empty))) := by
  unfold part; rw [take_snoc_s ss k h, List.flatMap_append, fold1_append]; simp
theorem part_all (ss : List ByteArray) (k : Nat) (h : k = ss.length) : 65535 - part ss k = sumL (ss.map L) := by
  unfold part sumL; rw [h, List.take_length, List.flatMap_map]

end Go.Proofs.YtilfcikhipadpaaGreatDoor
end
