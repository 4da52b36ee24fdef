/- Numbers in a row of the call's own. -/
import Derived.Test.YtcghhnehmddoeaaDoorLaw02
import Derived.Test.YtcghhnehmddoeaaDoorVoid
import Derived.Test.YtcghhnehmddoeaaDoorHeap2
import Derived.Test.YtcghhnehmddoeaaDoorStr
set_option linter.unusedVariables false
namespace Go.Proofs.YtcghhnehmddoeaaDoor
open Go.RowKit

/-- numbers at the head of a block of numbers -/
def Nums (w : World) (g : Nat) (l : List Int) : Prop := ∃ cur : Array Value, w.heap[g]? = some (.cells cur 23 (0, 0)) ∧ l.length ≤ cur.size ∧ cur.toList.take l.length = ints16 l
theorem Nums.at_ {w : World} {g : Nat} {l : List Int} (h : Nums w g l) {k : Nat} (hk : k < l.length) : w.cell? ⟨g, k, none⟩ = some (.int .u16 (l.getD k 0)) := by
  obtain ⟨cur, h1, h2, h3⟩ := h
  rw [Lib.cell_of_heap h1, ← Array.getElem?_toList, ← List.getElem?_take_of_lt hk, h3]
  exact ints16_at hk
theorem Nums.free {w : World} {g : Nat} {l : List Int} (h : Nums w g l) (k : Nat) : w.frozen? ⟨g, k, none⟩ = false := by
  obtain ⟨cur, h1, _⟩ := h
  simp [World.frozen?, h1]
theorem Nums.lt {w : World} {g : Nat} {l : List Int} (h : Nums w g l) : g < w.heap.size := by
  obtain ⟨cur, h1, _⟩ := h
  exact (Array.getElem?_eq_some_iff.1 h1).1
theorem Nums.row {w : World} {g : Nat} {l : List Int} (h : Nums w g l) : Row w w.heap.size (some ⟨g, 0, none⟩) l.length (ints16 l) := by
  refine ⟨by simp [ints16], fun _ => ⟨g, 0, rfl, h.lt, fun j u hu => ?_⟩⟩
  have hj : j < l.length := by
    have := (List.getElem?_eq_some_iff.1 hu).1
    simpa [ints16] using this
  rw [Nat.zero_add, h.at_ hj, ← hu]
  exact (ints16_at hj).symm
theorem Nums.below {w w' : World} {g : Nat} {l : List Int} (h : Nums w g l) (k : Below w.heap.size w w') : Nums w' g l := by
  have hlt := h.lt
  obtain ⟨cur, h1, h2, h3⟩ := h
  exact ⟨cur, (k.block g hlt).trans h1, h2, h3⟩
theorem Nums.set_ {w : World} {g : Nat} {l : List Int} (h : Nums w g l) {k : Nat} (hk : k < l.length) (x : Int) : Nums (w.setCell ⟨g, k, none⟩ (.int .u16 x)) g (l.set k x) := by
  obtain ⟨cur, h1, h2, h3⟩ := h
  have hc : Cells w g cur 23 := h1
  refine ⟨cur.setIfInBounds k (.int .u16 x), hc.set_ k _, by simpa using h2, ?_⟩
  rw [List.length_set, Array.toList_setIfInBounds, List.take_set, h3]
  unfold ints16
  rw [List.map_set]
theorem Nums.of_owns {w : World} {base g n cap : Nat} {l : List Int} (h : w.ownsRow base 23 1 (.slice (some ⟨g, 0, none⟩) n cap) n (ints16 l)) : base ≤ g ∧ Nums w g l ∧ n = l.length := by
  obtain ⟨hl, ⟨hv, _⟩ | ⟨g', cap', cur, hv, hb, hcell, hn, hc, hz, ht⟩⟩ := h
  · cases hv
  · injection hv with q1 q2 q3
    injection q1 with q1
    injection q1 with q1
    subst q1
    have hn2 : n = l.length := by simpa [ints16] using hl.symm
    refine ⟨hb, ⟨cur, hcell, by omega, ?_⟩, hn2⟩
    rw [← hn2]; simpa using ht
theorem owns_at {w : World} {base e : Nat} {v : Value} {n : Nat} {xs : List Value} (h : w.ownsRow base e 1 v n xs) (hn : 0 < n) : ∃ g c, v = .slice (some ⟨g, 0, none⟩) n c := by
  rcases h.2 with ⟨_, h0⟩ | ⟨g, cap, cur, hv, _⟩
  · omega
  · exact ⟨_, _, hv⟩

/-! ### plain facts -/
theorem tot_set0 : ∀ (l : List Int) (k : Nat) (x : Int), k < l.length → tot (l.set k x) = tot (l.set k 0) + x
  | [], _, _, h => by simp at h
  | a :: t, 0, x, _ => by simp only [List.set_cons_zero, tot_cons]; omega
  | a :: t, k + 1, x, h => by
    have := tot_set0 t k x (by simpa using h)
    simp only [List.set_cons_succ, tot_cons]; omega
theorem set_self : ∀ (l : List Int) (k : Nat), k < l.length → l.set k (l.getD k 0) = l
  | [], _, h => by simp at h
  | a :: t, 0, _ => by simp
  | a :: t, k + 1, h => by
    have := set_self t k (by simpa using h)
    simp only [List.set_cons_succ, List.getD_cons_succ]
    rw [this]
theorem set_bd {l : List Int} (hl : ∀ x ∈ l, 0 ≤ x ∧ x ≤ 65535) {k : Nat} {y : Int} (hy : 0 ≤ y ∧ y ≤ 65535) : ∀ x ∈ l.set k y, 0 ≤ x ∧ x ≤ 65535 := fun x hx => by
  rcases List.mem_or_eq_of_mem_set hx with h | h
  · exact hl x h
  · rw [h]; exact hy
theorem sumL_putW {l : List Int} (hl : ∀ x ∈ l, 0 ≤ x ∧ x ≤ 65535) : sumL [L (S (putW l))] = 65535 - rep (tot l) := by
  rw [sumL_rep]; simp only [List.flatMap_cons, List.flatMap_nil, List.append_nil]; rw [L_S, words_putW' hl]
theorem void_putW {l : List Int} (hl : ∀ x ∈ l, 0 ≤ x ∧ x ≤ 65535) : trim0 (S (putW l)) = { data := #[] } ↔ tot l = 0 := by
  rw [trim0_void, L_S, words_putW' hl]
/-- sums that are alike -/
theorem spoilt {l : List Int} (hl : ∀ x ∈ l, 0 ≤ x ∧ x ≤ 65535) {k : Nat} (hk : k < l.length) {y : Int} (hy : 0 ≤ y ∧ y ≤ 65535) :
    sumL [L (S (putW l))] = sumL [L (S (putW (l.set k y)))] ↔ l.getD k 0 = y ∨ (l.getD k 0 % 65535 = y % 65535 ∧ trim0 (S (putW (l.set k 0))) ≠ { data := #[] }) := by
  have h0 := set_bd hl (k := k) (y := 0) (by omega)
  rw [sumL_putW hl, sumL_putW (set_bd hl hy), Ne, void_putW h0, tot_set0 l k y hk]
  have e := tot_set0 l k (l.getD k 0) hk
  rw [set_self l k hk] at e
  rw [e]
  have hx := hl _ (getD_mem hk)
  have hp := tot_nonneg h0
  generalize tot (l.set k 0) = T at *
  generalize l.getD k 0 = x at *
  unfold rep
  split <;> split <;> omega
theorem Trim0_ret (s : ByteArray) (w : World) (hs : s.size ≤ 140737488351232) :
    Calls Tryd.prog 13 #[.string s, .string { data := #[0] }] w (Ret (.string (trim0 s)) w) :=
  (Trim0 s w hs).mono fun e w' h => ⟨h.1, by rcases h.2 with h2 | h2 <;> rw [h2]; exact Below.refl _ _; exact (Below.refl _ _).drew⟩
theorem tl_nil : ({ data := #[] } : ByteArray).toList = [] := by rw [ByteArray.toList_eq]
theorem void_walk (s : ByteArray) (w : World) (hs : s.size ≤ 140737488351232) :
    Calls Tryd.prog 6 #[.string s] w (Ret (.bool (decide (trim0 s = { data := #[] }))) w) := by
  have c := fun w => Trim0_ret s w hs
  by_cases h : trim0 s = { data := #[] }
  · rw [decide_eq_true h]
    rw [h] at c
    have C := hide c
    clear c h
    have q : (({ data := #[] } : ByteArray).toList == []) = true := by rw [tl_nil]; rfl
    go_enter Tryd.func6, Tryd.ntmps6
    go_wp2_with fail
    (with_reducible refine (C.out _).mono ?_)
    rintro e w1 ⟨rfl, b1⟩
    replace b1 : Below w.heap.size w w1 := by (refine bstep ?_ b1); (repeat' (first | with_reducible exact Below.refl _ _ | with_reducible refine Below.setCell ?_ (by first | exact Nat.le_refl _ | (dsimp only; omega)) _ | with_reducible refine bstep ?_ (fresh_below _ _) | with_reducible refine Below.drew ?_))
    have z1 : w.heap.size ≤ w1.heap.size := b1.size
    go_wp2_with fail
    go_ret
    exact ⟨rfl, (by (repeat' (first | with_reducible exact b1 | with_reducible exact Below.refl _ _ | with_reducible refine Below.setCell ?_ (by first | exact Nat.le_refl _ | (dsimp only; omega)) _ | with_reducible refine bstep ?_ (fresh_below _ _) | with_reducible refine Below.drew ?_)))⟩
  · rw [decide_eq_false h]
    obtain ⟨t, ht⟩ : ∃ t, t = trim0 s := ⟨_, rfl⟩
    rw [← ht] at c h
    have q : (t.toList == []) = false := by
      have := str_ne h
      rwa [tl_nil] at this
    have C := hide c
    clear c h ht
    go_enter Tryd.func6, Tryd.ntmps6
    go_wp2_with fail
    (with_reducible refine (C.out _).mono ?_)
    rintro e w1 ⟨rfl, b1⟩
    replace b1 : Below w.heap.size w w1 := by (refine bstep ?_ b1); (repeat' (first | with_reducible exact Below.refl _ _ | with_reducible refine Below.setCell ?_ (by first | exact Nat.le_refl _ | (dsimp only; omega)) _ | with_reducible refine bstep ?_ (fresh_below _ _) | with_reducible refine Below.drew ?_))
    have z1 : w.heap.size ≤ w1.heap.size := b1.size
    go_wp2_with fail
    go_ret
    exact ⟨rfl, (by (repeat' (first | with_reducible exact b1 | with_reducible exact Below.refl _ _ | with_reducible refine Below.setCell ?_ (by first | exact Nat.le_refl _ | (dsimp only; omega)) _ | with_reducible refine bstep ?_ (fresh_below _ _) | with_reducible refine Below.drew ?_)))⟩
end Go.Proofs.YtcghhnehmddoeaaDoor
