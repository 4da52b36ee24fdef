/- Several texts of this claim, one behind the other. -/
import Derived.Test.YtilfcikhipadpaaGreatDoorK23a
import Derived.Laws.IdiomCopy
import Derived.Deep.MidRow

section
/- rewrite: both addresses' bytes, a query with another ID, over this program. -/
set_option linter.unusedVariables false
set_option linter.unusedSimpArgs false
namespace Go.Proofs.YtilfcikhipadpaaGreatDoor
open Go.RowKit
attribute [local go_sem] Oper.semAt_some

/-- the bytes of both addresses -/
def ipsOf (a c : Int) : List UInt8 := put32 a ++ put32 c
/-- a query's message, with another ID -/
def queryOf (l : List UInt8) (id : Int) : List UInt8 := lay (lay l 4 id) 2 (upd (be16 l 2) (be16 l 4) id)
end Go.Proofs.YtilfcikhipadpaaGreatDoor
end

section
/- rewrite: a header, changed, over this program. -/
set_option linter.unusedVariables false
set_option linter.unusedSimpArgs false
namespace Go.Proofs.YtilfcikhipadpaaGreatDoor
open Go.RowKit
attribute [local go_sem] Oper.semAt_some

/-- a header's TTL, one less, and its protocol -/
def lifeOf (H : List UInt8) : List UInt8 := [byt (at_ H 8 - 1)] ++ (H.drop 9).take 1
def headSum (H : List UInt8) (a c : Int) : Int := updates (be16 H 10) ((H.drop 8).take 2 ++ (H.drop 12).take 8) (lifeOf H ++ ipsOf a c)
/-- a header, changed -/
def headNew (H : List UInt8) (a c : Int) : List UInt8 := H.take 8 ++ lifeOf H ++ put16 (headSum H a c) ++ ipsOf a c ++ H.drop 20

end Go.Proofs.YtilfcikhipadpaaGreatDoor
end

section
/- What a call leaves but for some blocks; stores of several cells. No program. -/
set_option linter.unusedVariables false
set_option linter.unusedSimpArgs false
namespace Go.Proofs.YtilfcikhipadpaaGreatDoor
open Go.RowKit

theorem Cells.setCells_ {b : Nat} {T : TypeId} : ∀ (vs : List Value) (o : Nat) (cs : Array Value) (w : World), Cells w b cs T → o + vs.length ≤ cs.size → ∃ cs', Cells (w.setCells b o vs) b cs' T ∧ cs'.size = cs.size ∧ ∀ j, cs'.toList[j]? = if o ≤ j ∧ j < o + vs.length then vs[j - o]? else cs.toList[j]?
  | [], o, cs, w, h, _ => ⟨cs, h, rfl, fun j => by rw [if_neg (by simp)]⟩
  | v :: vs, o, cs, w, h, hs => by
    simp only [List.length_cons] at hs
    obtain ⟨cs', h1, h2, h3⟩ := Cells.setCells_ vs (o + 1) _ _ (Cells.set_ h o v) (by simp; omega)
    refine ⟨cs', h1, by rw [h2]; simp, fun j => ?_⟩
    rw [h3 j]
    by_cases e : j = o
    · subst e
      rw [if_neg (by omega), if_pos (by simp), Array.toList_setIfInBounds, List.getElem?_set_self (by rw [Array.length_toList]; omega)]
      simp
    · by_cases h4 : o + 1 ≤ j ∧ j < o + 1 + vs.length
      · rw [if_pos h4, if_pos (by simp only [List.length_cons]; omega), show j - o = (j - (o + 1)) + 1 by omega]
        rfl
      · rw [if_neg h4, if_neg (by simp only [List.length_cons]; omega)]
        rw [Array.toList_setIfInBounds, List.getElem?_set_ne (by omega)]
theorem size_setCells_ (b : Nat) : ∀ (vs : List Value) (o : Nat) (w : World), (w.setCells b o vs).heap.size = w.heap.size
  | [], _, _ => rfl
  | v :: vs, o, w => by rw [World.setCells, size_setCells_ b vs]; simp
theorem Only.setCells_ {X : Nat → Prop} {A : World} {b : Nat} : ∀ (vs : List Value) (o : Nat) (w : World), Only X A w → X b ∨ A.heap.size ≤ b → Only X A (w.setCells b o vs)
  | [], _, _, h, _ => h
  | v :: vs, o, w, h, hb => Only.setCells_ vs (o + 1) _ (by
      refine ⟨h.os, h.tape, h.output, by have := h.size; simpa using this, fun k hk hx => ?_⟩
      refine Eq.trans ?_ (h.block k hk hx)
      exact Below.heap_setCell w ⟨b, o, none⟩ v k (by
        show k ≠ b
        rintro rfl
        rcases hb with hb | hb
        · exact hx hb
        · omega)) hb
theorem Cells.only {W W' : World} {b : Nat} {cs : Array Value} {T : TypeId} {X : Nat → Prop} (h : Cells W b cs T) (k : Only X W W') (hx : ¬ X b) : Cells W' b cs T := (k.block b h.lt hx).trans h
theorem Only.mono {X Y : Nat → Prop} {A C : World} (h : Only X A C) (k : ∀ i, X i → Y i) : Only Y A C := ⟨h.os, h.tape, h.output, h.size, fun i hi hx => h.block i hi fun hX => hx (k i hX)⟩
theorem Only.setAt {X : Nat → Prop} {A B : World} (h : Only X A B) {b : Nat} (i : Nat) (v : Value) (hb : X b ∨ A.heap.size ≤ b) : Only X A (B.setCell ⟨b, i, none⟩ v) := Only.setCells_ [v] i B h hb
theorem Only.drew {X : Nat → Prop} {A B : World} (h : Only X A B) : Only X A B.drew := ⟨h.os, h.tape, h.output, h.size, h.block⟩
theorem Cells.like {w : World} {b : Nat} {cs cs' : Array Value} {T : TypeId} (h : Cells w b cs T) (e : cs = cs') : Cells w b cs' T := e ▸ h
end Go.Proofs.YtilfcikhipadpaaGreatDoor
end

section
/- A whole struct (of whatever number of cells) stored into a block that is known whole, and loaded out of it: the world behind it by what it keeps. -/
set_option linter.unusedVariables false
set_option linter.unusedSimpArgs false
namespace Go.Proofs.YtilfcikhipadpaaGreatDoor
open Go.RowKit Go.Lib

theorem Cells.range {w : World} {g : Nat} {c : Array Value} {T : TypeId} (h : Cells w g c T) : w.rangeAt g 0 c.toList := fun j v hv => by
  rw [Nat.zero_add, h.at_ j, ← Array.getElem?_toList]; exact hv
theorem Cells.there {w : World} {g : Nat} {c : Array Value} {T : TypeId} (h : Cells w g c T) {n : Nat} (hn : n ≤ c.size) : w.there g 0 n := fun j hj => by
  rw [Nat.zero_add]
  exact ⟨by rw [h.at_ j, Array.getElem?_eq_getElem (by omega)]; rfl, h.free j⟩
theorem Cells.all {w : World} {g : Nat} {c c' : Array Value} {T : TypeId} (h : Cells w g c T) (hs : c.size = c'.size) : Cells (w.setCells g 0 c'.toList) g c' T := by
  obtain ⟨cs, h1, h2, h3⟩ := Cells.setCells_ c'.toList 0 c w h (by simp [hs])
  have e : cs = c' := by
    apply Array.ext'
    apply List.ext_getElem?
    intro j
    rw [h3 j]
    by_cases hj : j < c'.size
    · rw [if_pos ⟨Nat.zero_le _, by simpa using hj⟩, Nat.sub_zero]
    · rw [if_neg (fun k => hj (by simpa using k.2)), List.getElem?_eq_none (by simp; omega), List.getElem?_eq_none (by simp; omega)]
  exact e ▸ h1
/-- the world behind a store of a whole struct: the block has the new cells, all others lie as they lay -/
theorem stored {w : World} {g : Nat} {c c' : Array Value} {T : TypeId} (h : Cells w g c T) (hs : c.size = c'.size) : Cells (w.setCells g 0 c'.toList) g c' T ∧ Only (fun i => i = g) w (w.setCells g 0 c'.toList) ∧ (w.setCells g 0 c'.toList).heap.size = w.heap.size :=
  ⟨Cells.all h hs, Only.setCells_ _ _ _ (Only.refl _ _) (Or.inl rfl), size_setCells_ _ _ _ _⟩
variable {P : Program}
theorem wp_store_all {op : Oper} {a : Act} {w : World} {K : Act → World → Prop} {Q : Exit → Act → World → Prop} (ty : TypeId) (x y : Operand) (ho : op.op = .store ty x y)
    {g : Nat} {c c' : Array Value} {T : TypeId} (hC : Cells w g c T) (hx : a.eval x = .pointer (some ⟨g, 0, none⟩)) (hy : a.eval y = .agg c') (hi : (P.info? ty).map (·.size) = some c'.size) (hs : c.size = c'.size) (h1 : c'.all (·.oneCell') = true)
    (h : ∀ W', Cells W' g c' T → Only (fun i => i = g) w W' → W'.heap.size = w.heap.size → K (a.put op.dst undef) W') : op.wp P a w K Q :=
  wp_store_mid ty x y ho g 0 c' hx hy (hC.there (by omega)) hi h1 (h _ (stored hC hs).1 (stored hC hs).2.1 (stored hC hs).2.2)
theorem wpList_store_all {ops : Array Oper} {rest : List Oper} {op : Oper} {a : Act} {w : World} {Q : Exit → Act → World → Prop} (hgd : op.guard = none) (ty : TypeId) (x y : Operand) (ho : op.op = .store ty x y)
    {g : Nat} {c c' : Array Value} {T : TypeId} (hC : Cells w g c T) (hx : a.eval x = .pointer (some ⟨g, 0, none⟩)) (hy : a.eval y = .agg c') (hi : (P.info? ty).map (·.size) = some c'.size) (hs : c.size = c'.size) (h1 : c'.all (·.oneCell') = true)
    (h : ∀ W', Cells W' g c' T → Only (fun i => i = g) w W' → W'.heap.size = w.heap.size → wpList P ops Q rest (a.put op.dst undef) W') : wpList P ops Q (op :: rest) a w :=
  wpList_plain hgd fun _ hK => wp_store_all ty x y ho hC hx hy hi hs h1 fun W' k1 k2 k3 => hK _ _ (h W' k1 k2 k3)
theorem wpList_load_all {ops : Array Oper} {rest : List Oper} {op : Oper} {a : Act} {w : World} {Q : Exit → Act → World → Prop} (hgd : op.guard = none) (ty : TypeId) (x : Operand) (ho : op.op = .load ty x)
    {g : Nat} {c : Array Value} {T : TypeId} (hC : Cells w g c T) (hx : a.eval x = .pointer (some ⟨g, 0, none⟩)) (d : TypeDesc)
    (hu : P.underlying ty = some d) (hd : d.isRow = true) (hi : (P.info? ty).map (·.size) = some c.size)
    (h : wpList P ops Q rest (a.put op.dst (.agg c)) w) : wpList P ops Q (op :: rest) a w :=
  wpList_load_mid hgd ty x ho g 0 hx c.toList d hC.range hu hd (by simpa using hi) (by simpa using h)
/-- a struct named result, in a block that is known whole -/
theorem run_load_all {w : World} (ty : TypeId) {g : Nat} {c : Array Value} {T : TypeId} (hC : Cells w g c T) (d : TypeDesc) (hu : P.underlying ty = some d) (hd : d.isRow = true) (hi : (P.info? ty).map (·.size) = some c.size) :
    (loadVar ty ⟨g, 0, none⟩).run P w = .ok (.agg c) w := by
  have := run_loadVar_mid (P := P) w g 0 ty c.toList d hC.range hu hd (by simpa using hi)
  simpa using this
theorem res_cell_tmp {fn : Func} {tmps : Array Value} {w : World} {a b : Nat} {t : TypeId} (hf : fn.results = #[.cell a t, .tmp b]) {g : Nat} {c : Array Value} {T : TypeId} (hC : Cells w g c T) (hx : tmps.getD a undef = .pointer (some ⟨g, 0, none⟩)) {v : Value} (hv : tmps.getD b undef = v) (d : TypeDesc) (hu : P.underlying t = some d) (hd : d.isRow = true) (hi : (P.info? t).map (·.size) = some c.size) :
    (results fn tmps).run P w = .ok (.tuple #[.agg c, v]) w := by
  have hl := run_load_all (P := P) t hC d hu hd hi
  subst hv
  have hx' : tmps[a]?.getD undef = .pointer (some ⟨g, 0, none⟩) := by simpa using hx
  simp [results, hf, hx', asAddr, hl, Sem.run_bind, Sem.run_pure, Result.andThen_ok]
end Go.Proofs.YtilfcikhipadpaaGreatDoor
end
