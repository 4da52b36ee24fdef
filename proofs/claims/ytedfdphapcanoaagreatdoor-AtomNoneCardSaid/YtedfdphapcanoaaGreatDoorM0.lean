/- Several texts of this claim, one behind the other. -/
import Derived.WalkKit
import Derived.BigQuiet
import Derived.Deep.QuietTactic
import Derived.Deep.Draws
import Derived.Deep.RegionWith
import Derived.WalkLawsBesides
import Derived.WalkSpells
import Derived.Outline
import Derived.IntWalk
import Derived.Below
import Derived.Lib.Hide
import Derived.DataReads
import Derived.Lib.Builder
import Derived.Deep.DeepFit
import Derived.Laws.BitsAllLaws

section
/- Words used by all later texts: byte strings as lists, numbers in them, what a call leaves behind. Plain lemmas, no program. -/
namespace Go.Proofs.YtedfdphapcanoaaGreatDoor
open Go.RowKit

/-! ### what a call leaves -/
/-- it returns v; whatever lay there lies as it lay -/
def Ret (v : Value) (w : World) (e : Ending) (w' : World) : Prop := e = .returned v ∧ Below w.heap.size w w'
/-- it returns v; it has only drawn -/
def Quiet (v : Value) (w : World) (e : Ending) (w' : World) : Prop := e = .returned v ∧ ∃ n, w' = w.drewN n

theorem below_drewN {B : Nat} {a w : World} (h : Below B a w) (n : Nat) : Below B a (w.drewN n) := ⟨h.os, h.tape, h.output, h.size, h.block⟩
theorem Quiet.ret {v : Value} {w w' : World} {e : Ending} (h : Quiet v w e w') : Ret v w e w' := by
  obtain ⟨he, n, rfl⟩ := h
  exact ⟨he, below_drewN (Below.refl _ _) n⟩
theorem bstep {w a b : World} (h : Below w.heap.size w a) (k : Below a.heap.size a b) : Below w.heap.size w b := h.trans (k.mono h.size)

theorem qcall {P : Program} {f : FuncId} {args : Array Value} {w : World} {v : Value} (h : Calls P f args w (Quiet v w)) :
    Calls P f args w fun e w' => e = .returned v ∧ ∃ n, w' = w.drewN n := h
theorem qcall_add {P : Program} {f : FuncId} {args : Array Value} {w : World} {a n : Nat} {v : Value} (h : Calls P f args (w.drewN (a + n)) (Quiet v (w.drewN (a + n)))) :
    Calls P f args (w.drewN (a + n)) fun e w' => e = .returned v ∧ ∃ m, w' = w.drewN (a + m) :=
  h.mono fun _ _ ⟨he, m, hm⟩ => ⟨he, n + m, by rw [hm, World.drewN_drewN, Nat.add_assoc]⟩

theorem hide {p : Prop} (h : p) : Hid p := h
theorem unhide {p : Prop} (h : Hid p) : p := h
theorem ret_bool {a b : Bool} (h : a = b) : Ending.returned (.bool a) = .returned (.bool b) := by rw [h]
theorem ret_int {k : IntKind} {a b : Int} (h : a = b) : Ending.returned (.int k a) = .returned (.int k b) := by rw [h]
theorem ret_str {a b : ByteArray} (h : a = b) : Ending.returned (.string a) = .returned (.string b) := by rw [h]
theorem ret_two {a b c d : Value} (h : a = b) (k : c = d) : Ending.returned (.tuple #[a, c]) = .returned (.tuple #[b, d]) := by rw [h, k]
theorem v_int {k : IntKind} {a b : Int} (h : a = b) : Value.int k a = .int k b := by rw [h]
theorem v_bool {a b : Bool} (h : a = b) : Value.bool a = .bool b := by rw [h]
theorem v_str {a b : ByteArray} (h : a = b) : Value.string a = .string b := by rw [h]

/-! ### slices that came in -/
/-- the slice (A, n) reads as xs, and lies below block B -/
def Row (w : World) (B : Nat) (A : Option Addr) (n : Nat) (xs : List Value) : Prop :=
  xs.length = n ∧ (0 < n → ∃ b o, A = some ⟨b, o, none⟩ ∧ b < B ∧ ∀ j u, xs[j]? = some u → w.cell? ⟨b, o + j, none⟩ = some u)
theorem Row.nil {w : World} {B : Nat} {A : Option Addr} : Row w B A 0 [] := ⟨rfl, fun h => absurd h (by omega)⟩
theorem Row.at_ {w : World} {B n : Nat} {A : Option Addr} {xs : List Value} (h : Row w B A n xs) (hn : 0 < n) :
    ∃ b o, A = some ⟨b, o, none⟩ ∧ b < B ∧ ∀ j u, xs[j]? = some u → w.cell? ⟨b, o + j, none⟩ = some u := h.2 hn
theorem Row.below {w w' : World} {B n : Nat} {A : Option Addr} {xs : List Value} (h : Row w B A n xs) (hb : Below B w w') : Row w' B A n xs :=
  ⟨h.1, fun hn => by
    obtain ⟨b, o, e, hB, hc⟩ := h.2 hn
    exact ⟨b, o, e, hB, fun j u hu => (hb.cell (p := ⟨b, o + j, none⟩) hB).trans (hc j u hu)⟩⟩
theorem Row.more {w : World} {B B' n : Nat} {A : Option Addr} {xs : List Value} (h : Row w B A n xs) (hB : B ≤ B') : Row w B' A n xs :=
  ⟨h.1, fun hn => by
    obtain ⟨b, o, e, hb, hc⟩ := h.2 hn
    exact ⟨b, o, e, by omega, hc⟩⟩
theorem Row.alloc {w : World} {B n : Nat} {A : Option Addr} {xs : List Value} (h : Row w B A n xs) (hB : B ≤ w.heap.size) (o : Obj) : Row (w.alloc o) B A n xs :=
  h.below ((Below.refl B w).alloc hB o)
theorem Row.step {w a b : World} {n : Nat} {A : Option Addr} {xs : List Value} (h : Row a w.heap.size A n xs) (k : Below w.heap.size w a) (j : Below a.heap.size a b) : Row b w.heap.size A n xs :=
  h.below (j.mono k.size)

theorem Row.fresh (w : World) (cs : Array Value) (T : TypeId) : Row (w.alloc (.cells cs T)) (w.alloc (.cells cs T)).heap.size (some ⟨w.heap.size, 0, none⟩) cs.size cs.toList := by
  refine ⟨by simp, fun _ => ⟨_, _, rfl, by simp, fun j u hu => ?_⟩⟩
  rw [Lib.cell_of_heap (heap_alloc_new w (.cells cs T)), Nat.zero_add, ← Array.getElem?_toList]; exact hu
theorem Row.freshN (w : World) (cs : Array Value) (T : TypeId) (n : Nat) (xs : List Value) (hn : cs.size = n) (hx : cs.toList = xs) : Row (w.alloc (.cells cs T)) (w.alloc (.cells cs T)).heap.size (some ⟨w.heap.size, 0, none⟩) n xs := by
  subst hn hx; exact Row.fresh w cs T

theorem row_of_cells {w : World} {x : Addr} {len : Nat} {xs : List Value} (hl : xs.length = len) (hc : ∀ i u, xs[i]? = some u → w.cell? (x.add i) = some u) : Row w w.heap.size (some x) len xs := by
  refine ⟨hl, fun hn => ?_⟩
  obtain ⟨b, o, sp⟩ := x
  have h0 := hc 0 (xs[0]'(by omega)) (List.getElem?_eq_getElem (by omega))
  have hsp : sp = none := by simpa [Addr.add] using World.cell?_spot h0
  subst hsp
  refine ⟨b, o, rfl, by simpa [Addr.add] using World.block_lt_of_cell? w _ h0, fun j u hu => ?_⟩
  have := hc j u hu
  by_cases hj : j = 0
  · subst hj; simpa [Addr.add] using this
  · simpa [Addr.add, hj] using this
theorem row_of_ints {w : World} {x : Addr} {k : IntKind} {len cap : Nat} {zs : List Int} (hl : len ≤ cap) (hz : zs.length = cap) (hc : ∀ i, i < zs.length → w.cell? (x.add i) = some (.int k (zs.getD i 0))) :
    Row w w.heap.size (some x) len ((zs.take len).map (Value.int k)) := by
  refine row_of_cells (by simp; omega) (fun i u hu => ?_)
  have hi : i < len ∧ i < zs.length := by
    have := (List.getElem?_eq_some_iff.1 hu).1
    simp at this; omega
  rw [hc i hi.2]
  rw [List.getElem?_map, List.getElem?_take_of_lt hi.1, List.getElem?_eq_getElem hi.2] at hu
  rw [List.getD_eq_getElem?_getD, List.getElem?_eq_getElem hi.2]
  simpa using hu
theorem row_of_strings {w : World} {x : Addr} {len cap : Nat} {zs : List ByteArray} (hl : len ≤ cap) (hz : zs.length = cap) (hc : ∀ i, i < zs.length → w.cell? (x.add i) = some (.string (zs.getD i ByteArray.empty))) :
    Row w w.heap.size (some x) len ((zs.take len).map Value.string) := by
  refine row_of_cells (by simp; omega) (fun i u hu => ?_)
  have hi : i < len ∧ i < zs.length := by
    have := (List.getElem?_eq_some_iff.1 hu).1
    simp at this; omega
  rw [hc i hi.2]
  rw [List.getElem?_map, List.getElem?_take_of_lt hi.1, List.getElem?_eq_getElem hi.2] at hu
  rw [List.getD_eq_getElem?_getD, List.getElem?_eq_getElem hi.2]
  simpa using hu

/-! ### texts as lists of bytes -/
def L (s : ByteArray) : List UInt8 := s.data.toList
def S (l : List UInt8) : ByteArray := ⟨l.toArray⟩
theorem L_S (l : List UInt8) : L (S l) = l := rfl
theorem S_L (s : ByteArray) : S (L s) = s := by unfold S L; cases s; rfl
theorem L_length (s : ByteArray) : (L s).length = s.size := rfl
theorem S_size (l : List UInt8) : (S l).size = l.length := rfl
theorem L_append (a b : ByteArray) : L (a ++ b) = L a ++ L b := by simp [L]
theorem L_extract (s : ByteArray) (a b : Nat) : L (s.extract a b) = ((L s).drop a).take (b - a) := by
  simp [L, List.extract_eq_take_drop]
theorem L_inj {a b : ByteArray} (h : L a = L b) : a = b := by rw [← S_L a, ← S_L b, h]
theorem eq_S {a : ByteArray} {l : List UInt8} (h : L a = l) : a = S l := by rw [← h, S_L]
theorem S_append (a b : List UInt8) : S a ++ S b = S (a ++ b) := eq_S (by rw [L_append, L_S, L_S])
theorem L_from (s : ByteArray) (a : Nat) : L (s.extract a s.size) = (L s).drop a := by
  rw [L_extract, List.take_of_length_le (by rw [List.length_drop, L_length]; exact Nat.le_refl _)]
theorem L_to (s : ByteArray) (b : Nat) : L (s.extract 0 b) = (L s).take b := by rw [L_extract]; simp
theorem getElem_L (s : ByteArray) (k : Nat) (h : k < s.size) : s[k] = (L s).getD k 0 := by
  rw [List.getD_eq_getElem?_getD, List.getElem?_eq_getElem (by rw [L_length]; exact h)]; rfl

/-- a byte of a number -/
def byt (n : Int) : UInt8 := UInt8.ofNat n.toNat
theorem byt_toNat (n : Int) : (byt n).toNat = n.toNat % 256 := by simp [byt]
theorem byt_int (n : Int) (h : 0 ≤ n) : ((byt n).toNat : Int) = n % 256 := by rw [byt_toNat]; omega
/-- byte k of a text, as a number -/
def at_ (l : List UInt8) (k : Nat) : Int := ((l.getD k 0).toNat : Int)
theorem at_bd (l : List UInt8) (k : Nat) : 0 ≤ at_ l k ∧ at_ l k ≤ 255 := by
  have := (l.getD k 0).toNat_lt
  unfold at_; omega

/-! ### numbers in texts -/
/-- are so many bytes there, at a place -/
def has (n at_ many : Int) : Bool := decide (0 ≤ at_ ∧ at_ + many ≤ n)
def be16 (l : List UInt8) (k : Nat) : Int := at_ l k * 256 + at_ l (k + 1)
def be32 (l : List UInt8) (k : Nat) : Int := be16 l k * 65536 + be16 l (k + 2)
theorem be16_bd (l : List UInt8) (k : Nat) : 0 ≤ be16 l k ∧ be16 l k ≤ 65535 := by
  have := at_bd l k; have := at_bd l (k + 1); unfold be16; omega
theorem be32_bd (l : List UInt8) (k : Nat) : 0 ≤ be32 l k ∧ be32 l k ≤ 4294967295 := by
  have := be16_bd l k; have := be16_bd l (k + 2); unfold be32; omega
def get16 (l : List UInt8) (i : Int) : Int := if has l.length i 2 = true then be16 l i.toNat else 0
def get32 (l : List UInt8) (i : Int) : Int := if has l.length i 4 = true then be32 l i.toNat else 0
theorem get16_bd (l : List UInt8) (i : Int) : 0 ≤ get16 l i ∧ get16 l i ≤ 65535 := by
  have := be16_bd l i.toNat; unfold get16; split <;> omega
theorem get32_bd (l : List UInt8) (i : Int) : 0 ≤ get32 l i ∧ get32 l i ≤ 4294967295 := by
  have := be32_bd l i.toNat; unfold get32; split <;> omega
def put16 (n : Int) : List UInt8 := [byt (n / 256), byt n]
def put32 (n : Int) : List UInt8 := put16 (n / 65536) ++ put16 (n % 65536)
def putW (l : List Int) : List UInt8 := l.flatMap put16
theorem put16_length (n : Int) : (put16 n).length = 2 := rfl
theorem put32_length (n : Int) : (put32 n).length = 4 := rfl
theorem putW_length (l : List Int) : (putW l).length = 2 * l.length := by
  induction l with
  | nil => rfl
  | cons a l ih => rw [putW, List.flatMap_cons, List.length_append, put16_length, ← putW, ih, List.length_cons]; omega
theorem putW_append (a b : List Int) : putW (a ++ b) = putW a ++ putW b := by simp [putW]
/-- a text with a part in the place of as many bytes -/
def putAt (l : List UInt8) (i : Int) (p : List UInt8) : List UInt8 :=
  if has l.length i p.length = true then l.take i.toNat ++ (p ++ l.drop (i.toNat + p.length)) else []

theorem or16 (a b : Int) (h1 : 0 ≤ a) (h2 : a ≤ 255) (h3 : 0 ≤ b) (h4 : b ≤ 255) : bits .or .u16 (a * 256) b = a * 256 + b := by
  rw [u16_or _ _ (by omega) (by omega) h3 (by omega), nat_join 8 _ _ (by omega) (by omega)]; omega
theorem or32 (a b : Int) (h1 : 0 ≤ a) (h2 : a ≤ 65535) (h3 : 0 ≤ b) (h4 : b ≤ 65535) : bits .or .u32 (a * 65536) b = a * 65536 + b := by
  rw [u32_or _ _ (by omega) (by omega) h3 (by omega), nat_join 16 _ _ (by omega) (by omega)]; omega
theorem or16w (a b : Int) (h1 : 0 ≤ a) (h2 : a ≤ 255) (h3 : 0 ≤ b) (h4 : b ≤ 255) :
    bits .or .u16 (IntKind.u16.wrap (IntKind.u16.wrap a * 256)) (IntKind.u16.wrap b) = a * 256 + b := by
  rw [IntWalk.u16_in b (by omega), IntWalk.u16_in a (by omega), IntWalk.u16_in (a * 256) (by omega), or16 _ _ h1 h2 h3 h4]
theorem fresh_below (w : World) (o : Obj) : Below w.heap.size w (w.alloc o) := (Below.refl _ _).alloc (Nat.le_refl _) _
end Go.Proofs.YtedfdphapcanoaaGreatDoor
end

section
/- Plain facts on numbers in texts: what is put is got. No program. -/
namespace Go.Proofs.YtedfdphapcanoaaGreatDoor
open Go.RowKit

theorem Row.freshAt (w : World) (cs : Array Value) (T : TypeId) (g n : Nat) (xs : List Value) (hg : g = w.heap.size) (hn : cs.size = n) (hx : cs.toList = xs) : Row (w.alloc (.cells cs T)) (w.alloc (.cells cs T)).heap.size (some ⟨g, 0, none⟩) n xs := by
  subst hg; exact Row.freshN w cs T n xs hn hx
theorem cellAt {W W' : World} {p : Addr} {v : Value} (hb : Below W.heap.size W W') (h : W.cell? p = some v) : W'.cell? p = some v := (hb.cell (World.block_lt_of_cell? W p h)).trans h
theorem reach_max {n : Nat} (h : n ≤ 140737488351232) : n ≤ maxLen := by unfold maxLen; omega
theorem at_left {a b : List UInt8} {k : Nat} (h : k < a.length) : at_ (a ++ b) k = at_ a k := by
  unfold at_; rw [List.getD_eq_getElem?_getD, List.getD_eq_getElem?_getD, List.getElem?_append_left h]
theorem at_right {a b : List UInt8} {k : Nat} (h : a.length ≤ k) : at_ (a ++ b) k = at_ b (k - a.length) := by
  unfold at_; rw [List.getD_eq_getElem?_getD, List.getD_eq_getElem?_getD, List.getElem?_append_right h]
theorem at_take {a : List UInt8} {k n : Nat} (h : k < n) : at_ (a.take n) k = at_ a k := by
  unfold at_; rw [List.getD_eq_getElem?_getD, List.getD_eq_getElem?_getD, List.getElem?_take_of_lt h]
theorem at_drop {a : List UInt8} {k n : Nat} : at_ (a.drop n) k = at_ a (n + k) := by
  unfold at_; rw [List.getD_eq_getElem?_getD, List.getD_eq_getElem?_getD, List.getElem?_drop]
theorem at_cons0 (b : UInt8) (l : List UInt8) : at_ (b :: l) 0 = b.toNat := rfl
theorem at_cons1 (b : UInt8) (l : List UInt8) (k : Nat) : at_ (b :: l) (k + 1) = at_ l k := rfl

theorem be16_right {a b : List UInt8} {k : Nat} (h : a.length ≤ k) : be16 (a ++ b) k = be16 b (k - a.length) := by
  unfold be16; rw [at_right h, at_right (by omega), show k + 1 - a.length = k - a.length + 1 from by omega]
theorem be16_left {a b : List UInt8} {k : Nat} (h : k + 1 < a.length) : be16 (a ++ b) k = be16 a k := by
  unfold be16; rw [at_left (by omega), at_left h]
theorem be16_drop {a : List UInt8} {k n : Nat} : be16 (a.drop n) k = be16 a (n + k) := by
  unfold be16; rw [at_drop, at_drop, Nat.add_assoc]
theorem be16_take {a : List UInt8} {k n : Nat} (h : k + 1 < n) : be16 (a.take n) k = be16 a k := by
  unfold be16; rw [at_take (by omega), at_take h]
theorem be32_right {a b : List UInt8} {k : Nat} (h : a.length ≤ k) : be32 (a ++ b) k = be32 b (k - a.length) := by
  unfold be32; rw [be16_right h, be16_right (by omega), show k + 2 - a.length = k - a.length + 2 from by omega]
theorem be32_left {a b : List UInt8} {k : Nat} (h : k + 3 < a.length) : be32 (a ++ b) k = be32 a k := by
  unfold be32; rw [be16_left (by omega), be16_left (by omega)]
theorem be32_drop {a : List UInt8} {k n : Nat} : be32 (a.drop n) k = be32 a (n + k) := by
  unfold be32; rw [be16_drop, be16_drop, Nat.add_assoc]

theorem be16_put (n : Int) (r : List UInt8) (h0 : 0 ≤ n) (h1 : n ≤ 65535) : be16 (put16 n ++ r) 0 = n := by
  show ((byt (n / 256)).toNat : Int) * 256 + ((byt n).toNat : Int) = n
  rw [byt_int _ (by omega), byt_int _ h0]; omega
theorem be32_put (n : Int) (r : List UInt8) (h0 : 0 ≤ n) (h1 : n ≤ 4294967295) : be32 (put32 n ++ r) 0 = n := by
  unfold be32 put32
  rw [List.append_assoc, be16_put _ _ (by omega) (by omega), be16_right (by rw [put16_length]; omega), put16_length, be16_put _ _ (by omega) (by omega)]; omega
theorem be16_putW {l : List Int} (hb : ∀ x ∈ l, 0 ≤ x ∧ x ≤ 65535) (r : List UInt8) : ∀ {k : Nat}, k < l.length → be16 (putW l ++ r) (2 * k) = l.getD k 0 := by
  induction l with
  | nil => intro k hk; simp at hk
  | cons a l ih =>
    intro k hk
    have ha := hb a (by simp)
    show be16 ((put16 a ++ putW l) ++ r) (2 * k) = _
    rw [List.append_assoc]
    match k with
    | 0 => exact be16_put a _ ha.1 ha.2
    | k + 1 =>
      rw [be16_right (by rw [put16_length]; omega), put16_length, show 2 * (k + 1) - 2 = 2 * k from by omega]
      exact ih (fun x hx => hb x (by simp [hx])) (by simpa using hk)
theorem has_true {n i m : Int} (h0 : 0 ≤ i) (h1 : i + m ≤ n) : has n i m = true := by simp [has]; omega
theorem has_false {n i m : Int} (h : i < 0 ∨ n < i + m) : has n i m = false := by simp [has]; omega

/-! ### With -/
theorem putAt_in {l p : List UInt8} {k : Nat} (h : k + p.length ≤ l.length) : putAt l k p = l.take k ++ (p ++ l.drop (k + p.length)) := by
  unfold putAt; rw [if_pos (has_true (by omega) (by omega))]; rfl
theorem putAt_out {l p : List UInt8} {i : Int} (h : has l.length i p.length = false) : putAt l i p = [] := by
  unfold putAt; rw [if_neg (by simp [h])]
theorem putAt_length {l p : List UInt8} {k : Nat} (h : k + p.length ≤ l.length) : (putAt l k p).length = l.length := by
  rw [putAt_in h]; simp; omega
theorem putAt_take {l p : List UInt8} {k : Nat} (h : k + p.length ≤ l.length) : (putAt l k p).take k = l.take k := by
  rw [putAt_in h, List.take_append_of_le_length (by simp; omega), List.take_take, Nat.min_self]
theorem putAt_drop {l p : List UInt8} {k : Nat} (h : k + p.length ≤ l.length) : (putAt l k p).drop k = p ++ l.drop (k + p.length) := by
  rw [putAt_in h, List.drop_append_of_le_length (by simp; omega), List.drop_eq_nil_of_le (by simp; omega), List.nil_append]
theorem putAt_mid {l p : List UInt8} {k : Nat} (h : k + p.length ≤ l.length) : ((putAt l k p).drop k).take p.length = p := by
  rw [putAt_drop h, List.take_left]
theorem putAt_end {l p : List UInt8} {k : Nat} (h : k + p.length ≤ l.length) : (putAt l k p).drop (k + p.length) = l.drop (k + p.length) := by
  rw [← List.drop_drop, putAt_drop h, List.drop_left]
theorem putAt_back {l p : List UInt8} {k : Nat} (h : k + p.length ≤ l.length) : putAt (putAt l k p) k ((l.drop k).take p.length) = l := by
  have hq : ((l.drop k).take p.length).length = p.length := by simp; omega
  rw [putAt_in (by rw [hq, putAt_length h]; exact h), hq, putAt_take h, putAt_end h, ← List.drop_drop, List.take_append_drop, List.take_append_drop]
end Go.Proofs.YtedfdphapcanoaaGreatDoor
end
