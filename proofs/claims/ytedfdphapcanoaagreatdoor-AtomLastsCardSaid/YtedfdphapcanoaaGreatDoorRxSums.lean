/- Events: sums, words, parts of texts, where their texts are known. -/
import Derived.Test.YtedfdphapcanoaaGreatDoorRxG
import Derived.Test.YtedfdphapcanoaaGreatDoorSum
import Derived.KernelRfl
set_option linter.unusedVariables false
namespace Go.Proofs.YtedfdphapcanoaaGreatDoor
open Go.RowKit Go.Lib
namespace Rx
variable {A : Amb}

theorem row_of {P : Program} {ρ : Nm} {W : World} {b : Nat} {vs : List Value} {T : TypeId} {s κ : Nat} {r : Bool} (h : Lies ρ W b vs T s κ r) (hr : vs.all real0 = true) : Row W W.heap.size (some ⟨b, 0, none⟩) vs.length vs :=
  ⟨rfl, fun _ => ⟨b, 0, rfl, h.lt, fun j u hu => by
    have := h.cell hu
    rw [Nat.zero_add, this, ren0_real (List.all_eq_true.1 hr u (List.mem_of_getElem? hu))]⟩⟩
theorem strs_real (ss : List ByteArray) : (ss.map Value.string).all real0 = true := by
  induction ss with
  | nil => rfl
  | cons s l ih => exact ih
theorem ints_real (l : List Int) : (ints16 l).all real0 = true := by
  induction l with
  | nil => rfl
  | cons s l ih => exact ih
/-- whether texts hold -/
def holdsE (n id : Nat) (ss : List ByteArray) (b : Bool) (hb : holds (ss.map L) = b := by kernel_rfl) (hs : ∀ s ∈ ss, s.size ≤ 140737488351232 := by decide) (hn : ss.length ≤ 1000 := by decide) : Ev Tryz.prog A :=
  reads n [id] (f := 113) (args := [.slice (some ⟨id, 0, some 1⟩) (ss.map Value.string).length ss.length]) (sn := [(id, (ss.map Value.string, 9, true))]) (v := .bool b) fun ρ W _ h => by
    subst hb
    have h1 := row_of (P := Tryz.prog) (h _ (List.mem_singleton.2 rfl)) (strs_real ss)
    exact Holds _ _ _ ss W h1 hs (by rw [List.length_map]; omega)
/-- the words of a row -/
def wordE (n id : Nat) (l : List Int) (s : ByteArray) (hb : S (putW l) = s := by kernel_rfl) (hs : ∀ x ∈ l, 0 ≤ x ∧ x ≤ 65535 := by decide) (hn : l.length ≤ 1000 := by decide) : Ev Tryz.prog A :=
  reads n [id] (f := 151) (args := [.slice (some ⟨id, 0, some 1⟩) (ints16 l).length l.length]) (sn := [(id, (ints16 l, 28, true))]) (v := .string s) fun ρ W _ h => by
    subst hb
    have h1 := row_of (P := Tryz.prog) (h _ (List.mem_singleton.2 rfl)) (ints_real l)
    exact Word _ _ _ l W h1 hs (by have : (ints16 l).length = l.length := by unfold ints16; rw [List.length_map]
                                   omega)
def put16E (n : Nat) (x : Int) (s : ByteArray) (hb : S (put16 x) = s := by kernel_rfl) (h : 0 ≤ x ∧ x ≤ 65535 := by decide) : Ev Tryz.prog A :=
  does n (f := 215) (args := [.int .u16 x]) (v := .string s) fun W _ => by subst hb; exact Put16 x W h.1 h.2
def put32E (n : Nat) (x : Int) (s : ByteArray) (hb : S (put32 x) = s := by kernel_rfl) (h : 0 ≤ x ∧ x ≤ 4294967295 := by decide) : Ev Tryz.prog A :=
  does n (f := 265) (args := [.int .u32 x]) (v := .string s) fun W _ => by subst hb; exact Put32 x W h.1 h.2
def updsE (n : Nat) (x : Int) (a b : ByteArray) (y : Int) (hb : updates x (L a) (L b) = y := by kernel_rfl) (h : 0 ≤ x ∧ x ≤ 65535 := by decide) (ha : a.size ≤ 140737488351232 := by decide) (hc : b.size ≤ 140737488351232 := by decide) : Ev Tryz.prog A :=
  does n (f := 149) (args := [.int .u16 x, .string a, .string b]) (v := .int .u16 y) fun W _ => by subst hb; exact Updates x a b W h ha hc
def withE (n : Nat) (s : ByteArray) (k : Nat) (p : ByteArray) (y : ByteArray) (hb : S ((L s).take k ++ (L p ++ (L s).drop (k + p.size))) = y := by kernel_rfl) (h : k + p.size ≤ s.size := by decide) (hs : s.size ≤ 140737488351232 := by decide) : Ev Tryz.prog A :=
  does n (f := 224) (args := [.string s, .int .i64 (k : Nat), .string p]) (v := .tuple #[.string y, .bool true]) fun W _ => by subst hb; exact With_in s k p W hs h
end Rx
end Go.Proofs.YtedfdphapcanoaaGreatDoor
