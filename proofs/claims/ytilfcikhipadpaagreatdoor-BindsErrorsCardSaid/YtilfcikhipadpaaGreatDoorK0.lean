/- Several texts of this claim, one behind the other. -/
import Derived.WalkKit
import Derived.BigQuiet
import Derived.Deep.QuietTactic
import Derived.Deep.Draws
import Derived.Deep.RegionWith
import Derived.WalkLawsBesides
import Derived.WalkSpells
import Derived.Outline
import Derived.IntWalk
import Derived.Below
import Derived.Lib.Hide
import Derived.DataReads
import Derived.Lib.Builder
import Derived.Deep.DeepFit
import Derived.Laws.BitsAllLaws
import Derived.Test.YtilfcikhipadpaaGreatDoorProg
import Derived.Deep.RegionHeld

section
/- Words used by all later texts: byte strings as lists, numbers in them, what a call leaves behind. Plain lemmas, no program. -/
namespace Go.Proofs.YtilfcikhipadpaaGreatDoor
open Go.RowKit

/-! ### what a call leaves -/
/-- it returns v; whatever lay there lies as it lay -/
def Ret (v : Value) (w : World) (e : Ending) (w' : World) : Prop := e = .returned v ∧ Below w.heap.size w w'
/-- it returns v; it has only drawn -/
def Quiet (v : Value) (w : World) (e : Ending) (w' : World) : Prop := e = .returned v ∧ ∃ n, w' = w.drewN n

theorem below_drewN {B : Nat} {a w : World} (h : Below B a w) (n : Nat) : Below B a (w.drewN n) := ⟨h.os, h.tape, h.output, h.size, h.block⟩
theorem Quiet.ret {v : Value} {w w' : World} {e : Ending} (h : Quiet v w e w') : Ret v w e w' := by
  obtain ⟨he, n, rfl⟩ := h
  exact ⟨he, below_drewN (Below.refl _ _) n⟩
theorem bstep {w a b : World} (h : Below w.heap.size w a) (k : Below a.heap.size a b) : Below w.heap.size w b := h.trans (k.mono h.size)

theorem qcall {P : Program} {f : FuncId} {args : Array Value} {w : World} {v : Value} (h : Calls P f args w (Quiet v w)) :
    Calls P f args w fun e w' => e = .returned v ∧ ∃ n, w' = w.drewN n := h
theorem qcall_add {P : Program} {f : FuncId} {args : Array Value} {w : World} {a n : Nat} {v : Value} (h : Calls P f args (w.drewN (a + n)) (Quiet v (w.drewN (a + n)))) :
    Calls P f args (w.drewN (a + n)) fun e w' => e = .returned v ∧ ∃ m, w' = w.drewN (a + m) :=
  h.mono fun _ _ ⟨he, m, hm⟩ => ⟨he, n + m, by rw [hm, World.drewN_drewN, Nat.add_assoc]⟩

theorem hide {p : Prop} (h : p) : Hid p := h
theorem unhide {p : Prop} (h : Hid p) : p := h
theorem ret_bool {a b : Bool} (h : a = b) : Ending.returned (.bool a) = .returned (.bool b) := by rw [h]
theorem ret_int {k : IntKind} {a b : Int} (h : a = b) : Ending.returned (.int k a) = .returned (.int k b) := by rw [h]
theorem ret_str {a b : ByteArray} (h : a = b) : Ending.returned (.string a) = .returned (.string b) := by rw [h]
theorem ret_two {a b c d : Value} (h : a = b) (k : c = d) : Ending.returned (.tuple #[a, c]) = .returned (.tuple #[b, d]) := by rw [h, k]
theorem v_int {k : IntKind} {a b : Int} (h : a = b) : Value.int k a = .int k b := by rw [h]
theorem v_bool {a b : Bool} (h : a = b) : Value.bool a = .bool b := by rw [h]
theorem v_str {a b : ByteArray} (h : a = b) : Value.string a = .string b := by rw [h]

/-! ### slices that came in -/
/-- the slice (A, n) reads as xs, and lies below block B -/
def Row (w : World) (B : Nat) (A : Option Addr) (n : Nat) (xs : List Value) : Prop :=
  xs.length = n ∧ (0 < n → ∃ b o, A = some ⟨b, o, none⟩ ∧ b < B ∧ ∀ j u, xs[j]? = some u → w.cell? ⟨b, o + j, none⟩ = some u)
theorem Row.nil {w : World} {B : Nat} {A : Option Addr} : Row w B A 0 [] := ⟨rfl, fun h => absurd h (by omega)⟩
theorem Row.at_ {w : World} {B n : Nat} {A : Option Addr} {xs : List Value} (h : Row w B A n xs) (hn : 0 < n) :
    ∃ b o, A = some ⟨b, o, none⟩ ∧ b < B ∧ ∀ j u, xs[j]? = some u → w.cell? ⟨b, o + j, none⟩ = some u := h.2 hn
theorem Row.below {w w' : World} {B n : Nat} {A : Option Addr} {xs : List Value} (h : Row w B A n xs) (hb : Below B w w') : Row w' B A n xs :=
  ⟨h.1, fun hn => by
    obtain ⟨b, o, e, hB, hc⟩ := h.2 hn
    exact ⟨b, o, e, hB, fun j u hu => (hb.cell (p := ⟨b, o + j, none⟩) hB).trans (hc j u hu)⟩⟩
theorem Row.more {w : World} {B B' n : Nat} {A : Option Addr} {xs : List Value} (h : Row w B A n xs) (hB : B ≤ B') : Row w B' A n xs :=
  ⟨h.1, fun hn => by
    obtain ⟨b, o, e, hb, hc⟩ := h.2 hn
    exact ⟨b, o, e, by omega, hc⟩⟩
theorem Row.alloc {w : World} {B n : Nat} {A : Option Addr} {xs : List Value} (h : Row w B A n xs) (hB : B ≤ w.heap.size) (o : Obj) : Row (w.alloc o) B A n xs :=
  h.below ((Below.refl B w).alloc hB o)
theorem Row.step {w a b : World} {n : Nat} {A : Option Addr} {xs : List Value} (h : Row a w.heap.size A n xs) (k : Below w.heap.size w a) (j : Below a.heap.size a b) : Row b w.heap.size A n xs :=
  h.below (j.mono k.size)

theorem Row.fresh (w : World) (cs : Array Value) (T : TypeId) : Row (w.alloc (.cells cs T)) (w.alloc (.cells cs T)).heap.size (some ⟨w.heap.size, 0, none⟩) cs.size cs.toList := by
  refine ⟨by simp, fun _ => ⟨_, _, rfl, by simp, fun j u hu => ?_⟩⟩
  rw [Lib.cell_of_heap (heap_alloc_new w (.cells cs T)), Nat.zero_add, ← Array.getElem?_toList]; exact hu
theorem Row.freshN (w : World) (cs : Array Value) (T : TypeId) (n : Nat) (xs : List Value) (hn : cs.size = n) (hx : cs.toList = xs) : Row (w.alloc (.cells cs T)) (w.alloc (.cells cs T)).heap.size (some ⟨w.heap.size, 0, none⟩) n xs := by
  subst hn hx; exact Row.fresh w cs T

theorem row_of_cells {w : World} {x : Addr} {len : Nat} {xs : List Value} (hl : xs.length = len) (hc : ∀ i u, xs[i]? = some u → w.cell? (x.add i) = some u) : Row w w.heap.size (some x) len xs := by
  refine ⟨hl, fun hn => ?_⟩
  obtain ⟨b, o, sp⟩ := x
  have h0 := hc 0 (xs[0]'(by omega)) (List.getElem?_eq_getElem (by omega))
  have hsp : sp = none := by simpa [Addr.add] using World.cell?_spot h0
  subst hsp
  refine ⟨b, o, rfl, by simpa [Addr.add] using World.block_lt_of_cell? w _ h0, fun j u hu => ?_⟩
  have := hc j u hu
  by_cases hj : j = 0
  · subst hj; simpa [Addr.add] using this
  · simpa [Addr.add, hj] using this
theorem row_of_ints {w : World} {x : Addr} {k : IntKind} {len cap : Nat} {zs : List Int} (hl : len ≤ cap) (hz : zs.length = cap) (hc : ∀ i, i < zs.length → w.cell? (x.add i) = some (.int k (zs.getD i 0))) :
    Row w w.heap.size (some x) len ((zs.take len).map (Value.int k)) := by
  refine row_of_cells (by simp; omega) (fun i u hu => ?_)
  have hi : i < len ∧ i < zs.length := by
    have := (List.getElem?_eq_some_iff.1 hu).1
    simp at this; omega
  rw [hc i hi.2]
  rw [List.getElem?_map, List.getElem?_take_of_lt hi.1, List.getElem?_eq_getElem hi.2] at hu
  rw [List.getD_eq_getElem?_getD, List.getElem?_eq_getElem hi.2]
  simpa using hu
theorem row_of_strings {w : World} {x : Addr} {len cap : Nat} {zs : List ByteArray} (hl : len ≤ cap) (hz : zs.length = cap) (hc : ∀ i, i < zs.length → w.cell? (x.add i) = some (.string (zs.getD i ByteArray.empty))) :
    Row w w.heap.size (some x) len ((zs.take len).map Value.string) := by
  refine row_of_cells (by simp; omega) (fun i u hu => ?_)
  have hi : i < len ∧ i < zs.length := by
    have := (List.getElem?_eq_some_iff.1 hu).1
    simp at this; omega
  rw [hc i hi.2]
  rw [List.getElem?_map, List.getElem?_take_of_lt hi.1, List.getElem?_eq_getElem hi.2] at hu
  rw [List.getD_eq_getElem?_getD, List.getElem?_eq_getElem hi.2]
  simpa using hu

/-! ### texts as lists of bytes -/
def L (s : ByteArray) : List UInt8 := s.data.toList
def S (l : List UInt8) : ByteArray := ⟨l.toArray⟩
theorem L_S (l : List UInt8) : L (S l) = l := rfl
theorem S_L (s : ByteArray) : S (L s) = s := by unfold S L; cases s; rfl
theorem L_length (s : ByteArray) : (L s).length = s.size := rfl
theorem S_size (l : List UInt8) : (S l).size = l.length := rfl
theorem L_append (a b : ByteArray) : L (a ++ b) = L a ++ L b := by simp [L]
theorem L_extract (s : ByteArray) (a b : Nat) : L (s.extract a b) = ((L s).drop a).take (b - a) := by
  simp [L, List.extract_eq_take_drop]
theorem L_inj {a b : ByteArray} (h : L a = L b) : a = b := by rw [← S_L a, ← S_L b, h]
theorem eq_S {a : ByteArray} {l : List UInt8} (h : L a = l) : a = S l := by rw [← h, S_L]
theorem S_append (a b : List UInt8) : S a ++ S b = S (a ++ b) := eq_S (by rw [L_append, L_S, L_S])
theorem L_from (s : ByteArray) (a : Nat) : L (s.extract a s.size) = (L s).drop a := by
  rw [L_extract, List.take_of_length_le (by rw [List.length_drop, L_length]; exact Nat.le_refl _)]
theorem L_to (s : ByteArray) (b : Nat) : L (s.extract 0 b) = (L s).take b := by rw [L_extract]; simp
theorem getElem_L (s : ByteArray) (k : Nat) (h : k < s.size) : s[k] = (L s).getD k 0 := by
  rw [List.getD_eq_getElem?_getD, List.getElem?_eq_getElem (by rw [L_length]; exact h)]; rfl

/-- a byte of a number -/
def byt (n : Int) : UInt8 := UInt8.ofNat n.toNat
theorem byt_toNat (n : Int) : (byt n).toNat = n.toNat % 256 := by simp [byt]
theorem byt_int (n : Int) (h : 0 ≤ n) : ((byt n).toNat : Int) = n % 256 := by rw [byt_toNat]; omega
/-- byte k of a text, as a number -/
def at_ (l : List UInt8) (k : Nat) : Int := ((l.getD k 0).toNat : Int)
theorem at_bd (l : List UInt8) (k : Nat) : 0 ≤ at_ l k ∧ at_ l k ≤ 255 := by
  have := (l.getD k 0).toNat_lt
  unfold at_; omega

/-! ### numbers in texts -/
/-- are so many bytes there, at a place -/
def has (n at_ many : Int) : Bool := decide (0 ≤ at_ ∧ at_ + many ≤ n)
def be16 (l : List UInt8) (k : Nat) : Int := at_ l k * 256 + at_ l (k + 1)
def be32 (l : List UInt8) (k : Nat) : Int := be16 l k * 65536 + be16 l (k + 2)
theorem be16_bd (l : List UInt8) (k : Nat) : 0 ≤ be16 l k ∧ be16 l k ≤ 65535 := by
  have := at_bd l k; have := at_bd l (k + 1); unfold be16; omega
theorem be32_bd (l : List UInt8) (k : Nat) : 0 ≤ be32 l k ∧ be32 l k ≤ 4294967295 := by
  have := be16_bd l k; have := be16_bd l (k + 2); unfold be32; omega
def get16 (l : List UInt8) (i : Int) : Int := if has l.length i 2 = true then be16 l i.toNat else 0
def get32 (l : List UInt8) (i : Int) : Int := if has l.length i 4 = true then be32 l i.toNat else 0
theorem get16_bd (l : List UInt8) (i : Int) : 0 ≤ get16 l i ∧ get16 l i ≤ 65535 := by
  have := be16_bd l i.toNat; unfold get16; split <;> omega
theorem get32_bd (l : List UInt8) (i : Int) : 0 ≤ get32 l i ∧ get32 l i ≤ 4294967295 := by
  have := be32_bd l i.toNat; unfold get32; split <;> omega
def put16 (n : Int) : List UInt8 := [byt (n / 256), byt n]
def put32 (n : Int) : List UInt8 := put16 (n / 65536) ++ put16 (n % 65536)
def putW (l : List Int) : List UInt8 := l.flatMap put16
theorem put16_length (n : Int) : (put16 n).length = 2 := rfl
theorem put32_length (n : Int) : (put32 n).length = 4 := rfl
theorem putW_length (l : List Int) : (putW l).length = 2 * l.length := by
  induction l with
  | nil => rfl
  | cons a l ih => rw [putW, List.flatMap_cons, List.length_append, put16_length, ← putW, ih, List.length_cons]; omega
theorem putW_append (a b : List Int) : putW (a ++ b) = putW a ++ putW b := by simp [putW]
/-- a text with a part in the place of as many bytes -/
def putAt (l : List UInt8) (i : Int) (p : List UInt8) : List UInt8 :=
  if has l.length i p.length = true then l.take i.toNat ++ (p ++ l.drop (i.toNat + p.length)) else []

theorem or16 (a b : Int) (h1 : 0 ≤ a) (h2 : a ≤ 255) (h3 : 0 ≤ b) (h4 : b ≤ 255) : bits .or .u16 (a * 256) b = a * 256 + b := by
  rw [u16_or _ _ (by omega) (by omega) h3 (by omega), nat_join 8 _ _ (by omega) (by omega)]; omega
theorem or32 (a b : Int) (h1 : 0 ≤ a) (h2 : a ≤ 65535) (h3 : 0 ≤ b) (h4 : b ≤ 65535) : bits .or .u32 (a * 65536) b = a * 65536 + b := by
  rw [u32_or _ _ (by omega) (by omega) h3 (by omega), nat_join 16 _ _ (by omega) (by omega)]; omega
theorem or16w (a b : Int) (h1 : 0 ≤ a) (h2 : a ≤ 255) (h3 : 0 ≤ b) (h4 : b ≤ 255) :
    bits .or .u16 (IntKind.u16.wrap (IntKind.u16.wrap a * 256)) (IntKind.u16.wrap b) = a * 256 + b := by
  rw [IntWalk.u16_in b (by omega), IntWalk.u16_in a (by omega), IntWalk.u16_in (a * 256) (by omega), or16 _ _ h1 h2 h3 h4]
theorem fresh_below (w : World) (o : Obj) : Below w.heap.size w (w.alloc o) := (Below.refl _ _).alloc (Nat.le_refl _) _
end Go.Proofs.YtilfcikhipadpaaGreatDoor
end

section
/- Plain facts on numbers in texts: what is put is got. No program. -/
namespace Go.Proofs.YtilfcikhipadpaaGreatDoor
open Go.RowKit

theorem Row.freshAt (w : World) (cs : Array Value) (T : TypeId) (g n : Nat) (xs : List Value) (hg : g = w.heap.size) (hn : cs.size = n) (hx : cs.toList = xs) : Row (w.alloc (.cells cs T)) (w.alloc (.cells cs T)).heap.size (some ⟨g, 0, none⟩) n xs := by
  subst hg; exact Row.freshN w cs T n xs hn hx
theorem cellAt {W W' : World} {p : Addr} {v : Value} (hb : Below W.heap.size W W') (h : W.cell? p = some v) : W'.cell? p = some v := (hb.cell (World.block_lt_of_cell? W p h)).trans h
theorem reach_max {n : Nat} (h : n ≤ 140737488351232) : n ≤ maxLen := by unfold maxLen; omega
theorem at_left {a b : List UInt8} {k : Nat} (h : k < a.length) : at_ (a ++ b) k = at_ a k := by
  unfold at_; rw [List.getD_eq_getElem?_getD, List.getD_eq_getElem?_getD, List.getElem?_append_left h]
theorem at_right {a b : List UInt8} {k : Nat} (h : a.length ≤ k) : at_ (a ++ b) k = at_ b (k - a.length) := by
  unfold at_; rw [List.getD_eq_getElem?_getD, List.getD_eq_getElem?_getD, List.getElem?_append_right h]
theorem at_take {a : List UInt8} {k n : Nat} (h : k < n) : at_ (a.take n) k = at_ a k := by
  unfold at_; rw [List.getD_eq_getElem?_getD, List.getD_eq_getElem?_getD, List.getElem?_take_of_lt h]
theorem at_drop {a : List UInt8} {k n : Nat} : at_ (a.drop n) k = at_ a (n + k) := by
  unfold at_; rw [List.getD_eq_getElem?_getD, List.getD_eq_getElem?_getD, List.getElem?_drop]
theorem at_cons0 (b : UInt8) (l : List UInt8) : at_ (b :: l) 0 = b.toNat := rfl
theorem at_cons1 (b : UInt8) (l : List UInt8) (k : Nat) : at_ (b :: l) (k + 1) = at_ l k := rfl

theorem be16_right {a b : List UInt8} {k : Nat} (h : a.length ≤ k) : be16 (a ++ b) k = be16 b (k - a.length) := by
  unfold be16; rw [at_right h, at_right (by omega), show k + 1 - a.length = k - a.length + 1 from by omega]
theorem be16_left {a b : List UInt8} {k : Nat} (h : k + 1 < a.length) : be16 (a ++ b) k = be16 a k := by
  unfold be16; rw [at_left (by omega), at_left h]
theorem be16_drop {a : List UInt8} {k n : Nat} : be16 (a.drop n) k = be16 a (n + k) := by
  unfold be16; rw [at_drop, at_drop, Nat.add_assoc]
theorem be16_take {a : List UInt8} {k n : Nat} (h : k + 1 < n) : be16 (a.take n) k = be16 a k := by
  unfold be16; rw [at_take (by omega), at_take h]
theorem be32_right {a b : List UInt8} {k : Nat} (h : a.length ≤ k) : be32 (a ++ b) k = be32 b (k - a.length) := by
  unfold be32; rw [be16_right h, be16_right (by omega), show k + 2 - a.length = k - a.length + 2 from by omega]
theorem be32_left {a b : List UInt8} {k : Nat} (h : k + 3 < a.length) : be32 (a ++ b) k = be32 a k := by
  unfold be32; rw [be16_left (by omega), be16_left (by omega)]
theorem be32_drop {a : List UInt8} {k n : Nat} : be32 (a.drop n) k = be32 a (n + k) := by
  unfold be32; rw [be16_drop, be16_drop, Nat.add_assoc]

theorem be16_put (n : Int) (r : List UInt8) (h0 : 0 ≤ n) (h1 : n ≤ 65535) : be16 (put16 n ++ r) 0 = n := by
  show ((byt (n / 256)).toNat : Int) * 256 + ((byt n).toNat : Int) = n
  rw [byt_int _ (by omega), byt_int _ h0]; omega
theorem be32_put (n : Int) (r : List UInt8) (h0 : 0 ≤ n) (h1 : n ≤ 4294967295) : be32 (put32 n ++ r) 0 = n := by
  unfold be32 put32
  rw [List.append_assoc, be16_put _ _ (by omega) (by omega), be16_right (by rw [put16_length]; omega), put16_length, be16_put _ _ (by omega) (by omega)]; omega
theorem be16_putW {l : List Int} (hb : ∀ x ∈ l, 0 ≤ x ∧ x ≤ 65535) (r : List UInt8) : ∀ {k : Nat}, k < l.length → be16 (putW l ++ r) (2 * k) = l.getD k 0 := by
  induction l with
  | nil => intro k hk; simp at hk
  | cons a l ih =>
    intro k hk
    have ha := hb a (by simp)
    show be16 ((put16 a ++ putW l) ++ r) (2 * k) = _
    rw [List.append_assoc]
    match k with
    | 0 => exact be16_put a _ ha.1 ha.2
    | k + 1 =>
      rw [be16_right (by rw [put16_length]; omega), put16_length, show 2 * (k + 1) - 2 = 2 * k from by omega]
      exact ih (fun x hx => hb x (by simp [hx])) (by simpa using hk)
theorem has_true {n i m : Int} (h0 : 0 ≤ i) (h1 : i + m ≤ n) : has n i m = true := by simp [has]; omega
theorem has_false {n i m : Int} (h : i < 0 ∨ n < i + m) : has n i m = false := by simp [has]; omega

/-! ### With -/
theorem putAt_in {l p : List UInt8} {k : Nat} (h : k + p.length ≤ l.length) : putAt l k p = l.take k ++ (p ++ l.drop (k + p.length)) := by
  unfold putAt; rw [if_pos (has_true (by omega) (by omega))]; rfl
theorem putAt_out {l p : List UInt8} {i : Int} (h : has l.length i p.length = false) : putAt l i p = [] := by
  unfold putAt; rw [if_neg (by simp [h])]
theorem putAt_length {l p : List UInt8} {k : Nat} (h : k + p.length ≤ l.length) : (putAt l k p).length = l.length := by
  rw [putAt_in h]; simp; omega
theorem putAt_take {l p : List UInt8} {k : Nat} (h : k + p.length ≤ l.length) : (putAt l k p).take k = l.take k := by
  rw [putAt_in h, List.take_append_of_le_length (by simp; omega), List.take_take, Nat.min_self]
theorem putAt_drop {l p : List UInt8} {k : Nat} (h : k + p.length ≤ l.length) : (putAt l k p).drop k = p ++ l.drop (k + p.length) := by
  rw [putAt_in h, List.drop_append_of_le_length (by simp; omega), List.drop_eq_nil_of_le (by simp; omega), List.nil_append]
theorem putAt_mid {l p : List UInt8} {k : Nat} (h : k + p.length ≤ l.length) : ((putAt l k p).drop k).take p.length = p := by
  rw [putAt_drop h, List.take_left]
theorem putAt_end {l p : List UInt8} {k : Nat} (h : k + p.length ≤ l.length) : (putAt l k p).drop (k + p.length) = l.drop (k + p.length) := by
  rw [← List.drop_drop, putAt_drop h, List.drop_left]
theorem putAt_back {l p : List UInt8} {k : Nat} (h : k + p.length ≤ l.length) : putAt (putAt l k p) k ((l.drop k).take p.length) = l := by
  have hq : ((l.drop k).take p.length).length = p.length := by simp; omega
  rw [putAt_in (by rw [hq, putAt_length h]; exact h), hq, putAt_take h, putAt_end h, ← List.drop_drop, List.take_append_drop, List.take_append_drop]
end Go.Proofs.YtilfcikhipadpaaGreatDoor
end

section
/- Blocks that are known whole, rows of the call's own: words for the walks. No program. -/
set_option linter.unusedVariables false
namespace Go.Proofs.YtilfcikhipadpaaGreatDoor
open Go.RowKit

/-- a block that holds these cells, none of them frozen -/
def Cells (w : World) (b : Nat) (cs : Array Value) (T : TypeId) : Prop := w.heap[b]? = some (.cells cs T (0, 0))
theorem Cells.new (w : World) (cs : Array Value) (T : TypeId) : Cells (w.alloc (.cells cs T)) w.heap.size cs T := heap_alloc_new w _
theorem Cells.below {w w' : World} {b : Nat} {cs : Array Value} {T : TypeId} (k : Below w.heap.size w w') (h : Cells w b cs T) : Cells w' b cs T := (k.block b (Array.getElem?_eq_some_iff.1 h).1).trans h
theorem Cells.at_ {w : World} {b : Nat} {cs : Array Value} {T : TypeId} (h : Cells w b cs T) (j : Nat) : w.cell? ⟨b, j, none⟩ = cs[j]? := Lib.cell_of_heap h j
theorem Cells.free {w : World} {b : Nat} {cs : Array Value} {T : TypeId} (h : Cells w b cs T) (j : Nat) : w.frozen? ⟨b, j, none⟩ = false := by simp [World.frozen?, show w.heap[b]? = _ from h]
theorem Cells.four {w : World} {b : Nat} {v0 v1 v2 v3 : Value} {T : TypeId} (h : Cells w b #[v0, v1, v2, v3] T) :
    (w.cell? ⟨b, 0, none⟩ = some v0 ∧ w.cell? ⟨b, 1, none⟩ = some v1 ∧ w.cell? ⟨b, 2, none⟩ = some v2 ∧ w.cell? ⟨b, 3, none⟩ = some v3) ∧
    (w.frozen? ⟨b, 0, none⟩ = false ∧ w.frozen? ⟨b, 1, none⟩ = false ∧ w.frozen? ⟨b, 2, none⟩ = false ∧ w.frozen? ⟨b, 3, none⟩ = false) :=
  ⟨⟨h.at_ 0, h.at_ 1, h.at_ 2, h.at_ 3⟩, h.free 0, h.free 1, h.free 2, h.free 3⟩

theorem Cells.set_ {w : World} {b : Nat} {cs : Array Value} {T : TypeId} (h : Cells w b cs T) (j : Nat) (v : Value) : Cells (w.setCell ⟨b, j, none⟩ v) b (cs.setIfInBounds j v) T := by
  have hb : w.heap[b]? = some (.cells cs T (0, 0)) := h
  unfold Cells
  simp [World.setCell, Array.getElem?_modify, hb]

theorem Cells.lt {w : World} {b : Nat} {cs : Array Value} {T : TypeId} (h : Cells w b cs T) : b < w.heap.size := (Array.getElem?_eq_some_iff.1 h).1
theorem Cells.ne {w : World} {b : Nat} {cs : Array Value} {T : TypeId} (h : Cells w b cs T) : b ≠ w.heap.size := Nat.ne_of_lt h.lt
theorem Cells.other {w : World} {b : Nat} {cs : Array Value} {T : TypeId} (h : Cells w b cs T) {b' : Nat} (hb : b ≠ b') (j : Nat) (v : Value) : Cells (w.setCell ⟨b', j, none⟩ v) b cs T :=
  (Below.heap_setCell w ⟨b', j, none⟩ v b hb).trans h
theorem Cells.drew {w : World} {b : Nat} {cs : Array Value} {T : TypeId} (h : Cells w b cs T) : Cells w.drew b cs T := h
theorem Cells.alloc {w : World} {b : Nat} {cs : Array Value} {T : TypeId} (h : Cells w b cs T) (o : Obj) : Cells (w.alloc o) b cs T := Cells.below ((Below.refl _ _).alloc (Nat.le_refl _) o) h

theorem row_of_owns {w : World} {base e : Nat} {A : Option Addr} {n c : Nat} {xs : List Value} (h : w.ownsRow base e 1 (.slice A n c) n xs) : Row w w.heap.size A n xs := by
  obtain ⟨hl, hv | ⟨g, cap, cur, hv, hb, hcell, hn, hc, hz, ht⟩⟩ := h
  · obtain ⟨_, rfl⟩ := hv
    obtain rfl : xs = [] := List.eq_nil_of_length_eq_zero (by simpa using hl)
    exact Row.nil
  · injection hv with h1 h2 h3
    subst h1
    refine ⟨by simpa using hl, fun _ => ⟨g, 0, rfl, (Array.getElem?_eq_some_iff.1 hcell).1, fun j u hu => ?_⟩⟩
    rw [Lib.cell_of_heap hcell, Nat.zero_add, ← Array.getElem?_toList]
    rw [← ht] at hu
    have hj : j < n * 1 := by
      have := (List.getElem?_eq_some_iff.1 hu).1
      simp at this; omega
    rwa [List.getElem?_take_of_lt hj] at hu
theorem owns_fresh (w : World) (base e : Nat) (v : Value) (hb : base ≤ w.heap.size) : (w.alloc (.cells #[v] e)).ownsRow base e 1 (.slice (some ⟨w.heap.size, 0, none⟩) 1 1) 1 [v] :=
  ⟨rfl, .inr ⟨w.heap.size, 1, #[v], rfl, hb, heap_alloc_new w _, by omega, by unfold maxLen; omega, rfl, rfl⟩⟩
theorem owns_slice {w : World} {base e : Nat} {v : Value} {n : Nat} {xs : List Value} (h : w.ownsRow base e 1 v n xs) (hn : 0 < n) : ∃ A c, v = .slice A n c := by
  rcases h.2 with ⟨_, h0⟩ | ⟨g, cap, cur, hv, _⟩
  · omega
  · exact ⟨_, _, hv⟩

end Go.Proofs.YtilfcikhipadpaaGreatDoor
end

section
/- A region in an open order whose last operations need not keep what its loads read: wpAnyJ. -/
set_option linter.unusedVariables false
namespace Go.Proofs.YtilfcikhipadpaaGreatDoor
section
variable {P : Program} {ops : Array Oper} {Q : Exit → Act → World → Prop} {md : Region.Mode} {S : World → Prop} {N : List Nat}

/-- whatever order is picked from here on; behind each operation that is not one of N the condition S holds -/
def wpAnyJ (P : Program) (md : Region.Mode) (ops : Array Oper) (Q : Exit → Act → World → Prop) (S : World → Prop) (N : List Nat) : Nat → Array Bool → Act → World → Prop
  | 0, l, a, w => Region.ready md ops l = [] ∧ Q .normal a w
  | f + 1, l, a, w => (Region.ready md ops l = [] → Q .normal a w) ∧ ∀ i ∈ Region.ready md ops l, wpOp P ops Q i (fun a' w' => (i ∈ N ∨ S w') ∧ wpAnyJ P md ops Q S N f (l.setIfInBounds i true) a' w') a w

theorem wpAny_of_J : ∀ (f : Nat) (l : Array Bool) (a : Act) (w : World), wpAnyJ P md ops Q S N f l a w → wpAny P md ops Q f l a w
  | 0, _, _, _, h => h
  | f + 1, _, _, _, h => ⟨h.1, fun i hi => wpOp_mono (fun a' w' k => wpAny_of_J f _ a' w' k.2) (h.2 i hi)⟩

/-- each of the last operations waits for i -/
def lastWait (md : Region.Mode) (ops : Array Oper) (N : List Nat) (i : Nat) : Bool :=
  N.all fun n => n != i && (match ops[n]? with | some o => o.after.any fun e => e.on == i && Region.binds md e | none => true)

theorem lastWait_not {i n : Nat} {l : Array Bool} (h : lastWait md ops N i = true) (hn : n ∈ N) (hi : i ∈ Region.ready md ops l) (hr : n ∈ Region.ready md ops l) : False := by
  have h1 := List.all_eq_true.1 h n hn
  obtain ⟨_, o, ho, hall⟩ := mem_ready.1 hr
  simp only [ho, Bool.and_eq_true, Array.any_eq_true, beq_iff_eq] at h1
  obtain ⟨_, k, hk, he, hb⟩ := h1
  have h2 := hall _ (Array.getElem_mem hk) hb
  rw [he] at h2
  have h0 := (mem_ready.1 hi).1
  rcases Nat.lt_or_ge i l.size with h' | h'
  · simp [h'] at h0 h2; rw [h0] at h2; cases h2
  · simp [Array.getElem?_eq_none h'] at h2

theorem wpAnyJ_first {i : Nat} {oi : Oper} {v : Value} (hi : ops[i]? = some oi) (hsel : ∀ (j : Nat) (o : Oper) cs b, ops[j]? = some o → o.op ≠ .select cs b)
    (hQ : ∀ c a w, Q (.panic c) (a.put oi.dst v) w → Q (.panic c) a w) (hN : lastWait md ops N i = true) :
    ∀ (f : Nat) (l : Array Bool) (a : Act) (w : World),
      (∀ j oj, ops[j]? = some oj → j ≠ i → l.getD j true = false → (∀ e ∈ oj.after, Region.binds md e = true → e.on ≠ i) → oi.apart ops oj = true) →
      i ∈ Region.ready md ops l → YieldsIf P ops S oi v a → S w →
      wpAnyJ P md ops Q S N f (l.setIfInBounds i true) (a.put oi.dst v) w → wpAnyJ P md ops Q S N (f + 1) l a w := by
  intro f
  induction f with
  | zero =>
    intro l a w _ hr hy hS H
    refine ⟨fun h => (by rw [h] at hr; cases hr), fun j hj => ?_⟩
    by_cases hji : j = i
    · subst hji; exact hy.wpOp hi hS ⟨Or.inr hS, H⟩
    · have := ready_mono hj hji
      rw [H.1] at this
      cases this
  | succ f ih =>
    intro l a w hfree hr hy hS H
    refine ⟨fun h => (by rw [h] at hr; cases hr), fun j hj => ?_⟩
    by_cases hji : j = i
    · subst hji; exact hy.wpOp hi hS ⟨Or.inr hS, H⟩
    have hjN : j ∉ N := fun hn => lastWait_not hN hn hr hj
    obtain ⟨hjun, oj, hoj, hall⟩ := mem_ready.1 hj
    have hnot : ∀ e ∈ oj.after, Region.binds md e = true → e.on ≠ i := fun e he hb heq => by
      have h1 := hall e he hb
      have h0 := (mem_ready.1 hr).1
      rw [heq] at h1
      rcases Nat.lt_or_ge i l.size with h' | h'
      · simp [h'] at h0 h1; rw [h0] at h1; cases h1
      · simp [Array.getElem?_eq_none h'] at h1
    have h2 := wpOp_putIf hoj (hfree j oj hoj hji hjun hnot) (fun cs b => hsel i oi cs b hi) (fun cs b => hsel j oj cs b hoj) hQ hy (H.2 j (ready_mono hj hji))
    have hfree' : ∀ k ok, ops[k]? = some ok → k ≠ i → (l.setIfInBounds j true).getD k true = false →
        (∀ e ∈ ok.after, Region.binds md e = true → e.on ≠ i) → oi.apart ops ok = true := fun k ok hk hki hun hno => by
      refine hfree k ok hk hki ?_ hno
      by_cases hjk : j = k
      · subst hjk; exact hjun
      · rw [getD_set_ne true hjk] at hun; exact hun
    refine wpOp_mono (fun a' w' h3 => ?_) h2
    obtain ⟨hy', hS', H'⟩ := h3
    rcases hS' with hS' | hS'
    · exact absurd hS' hjN
    · refine ⟨Or.inr hS', ih (l.setIfInBounds j true) a' w' hfree' (ready_mono hr (Ne.symm hji)) hy' hS' ?_⟩
      rw [Array.setIfInBounds_comm _ _ hji]
      exact H'

theorem wpAnyJ_take {i : Nat} {oi : Oper} {v : Value} {f : Nat} {l : Array Bool} {a : Act} {w : World} (hi : ops[i]? = some oi)
    (hs : Region.noSelect ops = true) (hf : Region.free md ops l i = true) (hr : (Region.ready md ops l).contains i = true) (hN : lastWait md ops N i = true)
    (hQ : ∀ c a w, Q (.panic c) (a.put oi.dst v) w → Q (.panic c) a w) (hy : YieldsIf P ops S oi v a) (hS : S w)
    (h : wpAnyJ P md ops Q S N f (l.setIfInBounds i true) (a.put oi.dst v) w) : wpAnyJ P md ops Q S N (f + 1) l a w :=
  wpAnyJ_first hi (Region.noSelect_spec hs) hQ hN f l a w (Region.free_spec hi hf) (by simpa using hr) hy hS h

def AllReadyJ (P : Program) (md : Region.Mode) (ops : Array Oper) (Q : Exit → Act → World → Prop) (S : World → Prop) (N : List Nat) (f : Nat) (l : Array Bool) (a : Act) (w : World) (rs : List Nat) : Prop :=
  ∀ i ∈ rs, wpOp P ops Q i (fun a' w' => (i ∈ N ∨ S w') ∧ wpAnyJ P md ops Q S N f (l.setIfInBounds i true) a' w') a w
theorem AllReadyJ.nil {f : Nat} {l : Array Bool} {a : Act} {w : World} : AllReadyJ P md ops Q S N f l a w [] := fun _ h => by cases h
theorem AllReadyJ.cons {f : Nat} {l : Array Bool} {a : Act} {w : World} {i : Nat} {o : Oper} {rs : List Nat} (ho : ops[i]? = some o)
    (h : ∀ K' : Act → World → Prop, Shut (∀ a w, S w → (S w → wpAnyJ P md ops Q S N f (l.setIfInBounds i true) a w) → K' a w) → if Region.wanted o (yielded ops a.tmps) = true then Oper.wp P o a w K' Q else K' (a.put o.dst undef) w)
    (hs : AllReadyJ P md ops Q S N f l a w rs) : AllReadyJ P md ops Q S N f l a w (i :: rs) := fun j hj => by
  rcases List.mem_cons.1 hj with rfl | hj
  · exact wpOp_step ho (fun K' hK => h K' (fun a w hS hW => hK a w ⟨Or.inr hS, hW hS⟩))
  · exact hs j hj
/-- one of the last operations: nothing is asked behind it -/
theorem AllReadyJ.last {f : Nat} {l : Array Bool} {a : Act} {w : World} {i : Nat} {o : Oper} {rs : List Nat} (ho : ops[i]? = some o) (hN : N.contains i = true)
    (h : ∀ K' : Act → World → Prop, Shut (∀ a w, wpAnyJ P md ops Q S N f (l.setIfInBounds i true) a w → K' a w) → if Region.wanted o (yielded ops a.tmps) = true then Oper.wp P o a w K' Q else K' (a.put o.dst undef) w)
    (hs : AllReadyJ P md ops Q S N f l a w rs) : AllReadyJ P md ops Q S N f l a w (i :: rs) := fun j hj => by
  rcases List.mem_cons.1 hj with rfl | hj
  · exact wpOp_step ho (fun K' hK => h K' (fun a w hW => hK a w ⟨Or.inl (by simpa using hN), hW⟩))
  · exact hs j hj
theorem wpAnyJ_ready {rs : List Nat} {f : Nat} {l : Array Bool} {a : Act} {w : World} (hr : Region.ready md ops l = rs) (hne : rs ≠ [])
    (h : AllReadyJ P md ops Q S N f l a w rs) : wpAnyJ P md ops Q S N (f + 1) l a w :=
  ⟨fun h0 => absurd (hr ▸ h0) hne, fun i hi => h i (hr ▸ hi)⟩
theorem wpAnyJ_done {l : Array Bool} {a : Act} {w : World} (hr : Region.ready md ops l = []) (h : Q .normal a w) : ∀ f, wpAnyJ P md ops Q S N f l a w
  | 0 => ⟨hr, h⟩
  | _ + 1 => ⟨fun _ => h, by rw [hr]; simp⟩
theorem wp_region_J {id : Nat} {a : Act} {w : World} (N : List Nat) (S : World → Prop) (hm : P.follows .mixedOrders = true) (hS : S w.drew)
    (h : S w.drew → wpAnyJ P .any ops Q S N ops.size (Array.replicate ops.size false) a w.drew) : (Code.region id ops true).wp P Q a w :=
  wp_region_any hm (wpAny_of_J _ _ _ _ (h hS))
end
end Go.Proofs.YtilfcikhipadpaaGreatDoor
end
