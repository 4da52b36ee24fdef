/- Several texts of this claim, one behind the other. -/
import Derived.Test.YtilfcikhipadpaaGreatDoorK36
import Derived.KernelRfl
import Derived.ProofKit
import Derived.OpenShut
import Derived.SizedLaws

section
/- binds: the chapter's plans: bound. -/
set_option linter.unusedVariables false
namespace Go.Proofs.YtilfcikhipadpaaGreatDoor
open Go.RowKit Go.Lib
theorem rx_bound (w : World) (hT : Lasts w) : Calls Tryz.prog 9 #[] w (Ret (.bool true) w) :=
  have t : ∀ n, Rx.Ev Tryz.prog (Rx.Amb.of w) := fun n => Rx.does n (args := [.int .i64 1, .int .u8 0]) fun W h => tk_First W 1 0 (hT.below h)
  Rx.run (args := []) [t 1698, t 2403, t 2781, t 3615]
end Go.Proofs.YtilfcikhipadpaaGreatDoor
end

section
/- A wire's text; BindsSee's walk. -/
set_option linter.unusedVariables false
namespace Go.Proofs.YtilfcikhipadpaaGreatDoor
open Go.RowKit Go.Lib

theorem w_Text (k p f t b p0 p1 fl : Int) (s : ByteArray) (w : World) (h : 0 ≤ p ∧ 0 ≤ f ∧ 0 ≤ t ∧ 0 ≤ p0 ∧ 0 ≤ p1 ∧ 0 ≤ fl) (hb : 0 ≤ b) (hf : fl ≤ 255) (hs : s.size ≤ 140737488351232) :
    ∃ out : ByteArray, out.size ≤ 140737488351232 ∧ ∀ W, Below w.heap.size w W → Calls Tryz.prog 10 #[wireV k p f t b p0 p1 fl s] W (Ret (.string out) W) := by
  have cT := fun W => w_Tuple k p f t b p0 p1 fl s W h
  have hT : ((wireT p f t p0 p1 fl).p = 6 ∨ (wireT p f t p0 p1 fl).p = 17 ∨ ((wireT p f t p0 p1 fl).p = 1 ∧ ((wireT p f t p0 p1 fl).d = 0 ∨ ((wireT p f t p0 p1 fl).b = 0 ∧ (wireT p f t p0 p1 fl).d ≠ 0)))) ∧ (0 ≤ (wireT p f t p0 p1 fl).a ∧ (wireT p f t p0 p1 fl).a ≤ 4294967295) ∧ (0 ≤ (wireT p f t p0 p1 fl).b ∧ (wireT p f t p0 p1 fl).b ≤ 65535) ∧ (0 ≤ (wireT p f t p0 p1 fl).c ∧ (wireT p f t p0 p1 fl).c ≤ 4294967295) ∧ (0 ≤ (wireT p f t p0 p1 fl).d ∧ (wireT p f t p0 p1 fl).d ≤ 65535) := by
    have hp := proto_is p h.1
    have b1 := host_bd f; have b2 := host_bd t; have b3 := port_bd p0; have b4 := port_bd p1
    unfold wireT
    split
    · rename_i hp1
      split
      · exact ⟨Or.inr (Or.inr ⟨hp1, by by_cases h : portV p1 = 0 <;> simp [h]⟩), b1, (by decide : (0 : Int) ≤ 0 ∧ (0 : Int) ≤ 65535), b2, b4⟩
      · exact ⟨Or.inr (Or.inr ⟨hp1, Or.inl rfl⟩), b1, b3, b2, (by decide : (0 : Int) ≤ 0 ∧ (0 : Int) ≤ 65535)⟩
    · refine ⟨?_, b1, b3, b2, b4⟩
      simp only
      omega
  have hF : 0 ≤ flV fl ∧ flV fl ≤ 255 := by unfold flV; split <;> omega
  have cF := fun W => w_flags k p f t b p0 p1 fl s W
  generalize wireT p f t p0 p1 fl = T at *
  generalize flV fl = F at *
  obtain ⟨h1, h2, h3, h4, h5⟩ := hT
  by_cases k5 : k.tmod 8 = 5
  · obtain ⟨o1, z1, c1⟩ := madeG T.p T.a T.b T.c T.d F 9 { data := #[97, 98, 99, 100, 101, 102, 103, 104] } h1 h2 h3 h4 h5 hF (by decide) (by decide)
    have z1 : o1.size ≤ 48 := z1
    obtain ⟨o2, z2, c2⟩ := wrongG (hostV b) T.a 3 o1 (host_bd b) h2 (by decide) (by omega)
    refine ⟨o2, by omega, fun W _ => ?_⟩
    exact Rx.run (args := [wireV k p f t b p0 p1 fl s]) [Rx.yes 7 (b := k.tmod 8 == 5) (by simpa using k5), Rx.does 10 (args := [.int .u8 b, .int .u8 0]) (fun W _ => w_point b 0 W hb (by decide)), Rx.does 13 (args := [wireV k p f t b p0 p1 fl s]) (fun W _ => cT W), Rx.does 17 (args := [wireV k p f t b p0 p1 fl s]) (fun W _ => cT W), Rx.does 19 (args := [wireV k p f t b p0 p1 fl s]) (fun W _ => cF W), Rx.does 20 (args := [_, _, _, _]) (fun W _ => c1 W), Rx.does 21 (args := [_, _, _, _]) (fun W _ => c2 W)]
  have n5 : (k.tmod 8 == 5) = false := by simpa using k5
  by_cases k6 : k.tmod 8 = 6
  · obtain ⟨o1, z1, c1⟩ := madeG T.p T.a T.b T.c T.d F 1 { data := #[97, 98, 99] } h1 h2 h3 h4 h5 hF (by decide) (by decide)
    have z1 : o1.size ≤ 43 := z1
    refine ⟨o1, by omega, fun W _ => ?_⟩
    exact Rx.run (args := [wireV k p f t b p0 p1 fl s]) [Rx.no 7 n5, Rx.yes 10 (b := k.tmod 8 == 6) (by simpa using k6), Rx.does 12 (args := [wireV k p f t b p0 p1 fl s]) (fun W _ => cT W), Rx.does 14 (args := [wireV k p f t b p0 p1 fl s]) (fun W _ => cF W), Rx.does 15 (args := [_, _, _, _]) (fun W _ => c1 W)]
  have n6 : (k.tmod 8 == 6) = false := by simpa using k6
  by_cases k7 : k.tmod 8 = 7
  · exact ⟨s, hs, fun W _ => Rx.run (args := [wireV k p f t b p0 p1 fl s]) [Rx.no 7 n5, Rx.no 10 n6, Rx.yes 13 (b := k.tmod 8 == 7) (by simpa using k7)]⟩
  · obtain ⟨o1, z1, c1⟩ := madeG T.p T.a T.b T.c T.d F 64 { data := #[97, 98, 99, 100] } h1 h2 h3 h4 h5 hF (by decide) (by decide)
    have z1 : o1.size ≤ 44 := z1
    refine ⟨o1, by omega, fun W _ => ?_⟩
    exact Rx.run (args := [wireV k p f t b p0 p1 fl s]) [Rx.no 7 n5, Rx.no 10 n6, Rx.no 13 (b := k.tmod 8 == 7) (by simpa using k7), Rx.does 15 (args := [wireV k p f t b p0 p1 fl s]) (fun W _ => cT W), Rx.does 17 (args := [wireV k p f t b p0 p1 fl s]) (fun W _ => cF W), Rx.does 18 (args := [_, _, _, _]) (fun W _ => c1 W)]
theorem seeV_is (X : Seen) (r : Int) (T : Tup) (q : Int) : ∃ x t e, seeV X r T q = glanceV x t e := by
  unfold seeV
  repeat' split
  all_goals exact ⟨_, _, _, rfl⟩
theorem BindsSee_walk (k p f t b p0 p1 fl : Int) (s : ByteArray) (w : World) (K0 : Lasts w ∧ Kinds w) (hk : 0 ≤ k ∧ k ≤ 255) (hp : 0 ≤ p ∧ p ≤ 255) (hf : 0 ≤ f ∧ f ≤ 255) (ht : 0 ≤ t ∧ t ≤ 255) (hb : 0 ≤ b ∧ b ≤ 255) (h0 : 0 ≤ p0 ∧ p0 ≤ 255) (h1 : 0 ≤ p1 ∧ p1 ≤ 255) (hl : 0 ≤ fl ∧ fl ≤ 255) (hs : s.size ≤ 140737488351232) :
    Calls Tryz.prog 3 #[wireV k p f t b p0 p1 fl s] w (Ret (.bool true) w) := by
  have cb : ∀ W, Below w.heap.size w W → Calls Tryz.prog 9 #[] W (Ret (.bool true) W) := fun W h => rx_bound W (K0.1.below h)
  by_cases hg : (s.size : Int) > 2200
  · exact Rx.run (args := [wireV k p f t b p0 p1 fl s]) [Rx.yes 6 (decide_eq_true hg), Rx.does 7 (args := []) cb]
  · obtain ⟨o, z, ct⟩ := w_Text k p f t b p0 p1 fl s w ⟨hp.1, hf.1, ht.1, h0.1, h1.1, hl.1⟩ hb.1 hl.2 hs
    have c1 : ∀ W, Below w.heap.size w W → _ := fun W h => b_See o W (K0.2.below h) z
    have c2 : ∀ W, Below w.heap.size w W → _ := fun W h => d_See o W z
    obtain ⟨x, y, e, he⟩ := seeV_is (seenOf o) (seenWhy o) (inTup o) (emsWhy o)
    rw [he] at c1 c2
    exact Rx.run (args := [wireV k p f t b p0 p1 fl s]) [Rx.no 6 (decide_eq_false hg), Rx.does 8 (args := [wireV k p f t b p0 p1 fl s]) ct, Rx.does 11 (args := [.string o]) c1, Rx.does 19 (args := [.string o]) c2,
      Rx.isT 29 (b := e == e) (by simp), Rx.isT 41 (b := (x.t.p == x.t.p && (x.t.a == x.t.a && (x.t.b == x.t.b && true) && (x.t.c == x.t.c && (x.t.d == x.t.d && true) && true)) && (x.k == x.k && (x.f == x.f && (x.q == x.q && (x.l == x.l && true)))))) (by simp),
      Rx.isT 48 (b := (y.p == y.p && (y.a == y.a && (y.b == y.b && true) && (y.c == y.c && (y.d == y.d && true) && true)))) (by simp), Rx.does 49 (args := []) cb]
end Go.Proofs.YtilfcikhipadpaaGreatDoor
end

section
/- How an argument that is a struct or an array (of whatever depth) of one-cell leaves reads: each cell by its place. No program. -/
set_option linter.unusedVariables false
namespace Go.Proofs.YtilfcikhipadpaaGreatDoor
open Go.RowKit Go.ChangeShapes Go.WideShapes

/-- the type of the leaf at cell i of a value of type t -/
def leafAt (P : Program) : Nat → TypeId → Nat → Option TypeId
  | 0, _, _ => none
  | n + 1, t, i =>
    match P.underlying t with
    | some (.struct fs) =>
      match fs.toList.find? (fun f => decide (f.offset ≤ i) && decide (i < f.offset + P.cellsOf f.type)) with
      | some f => leafAt P n f.type (i - f.offset)
      | none => none
    | some (.array m e) => if i / P.cellsOf e < m then leafAt P n e (i % P.cellsOf e) else none
    | some (.int _) | some .bool | some .string | some (.slice _) => if i = 0 then some t else none
    | _ => none

section
variable {H : Type} {enc : TypeId × Value → H} {P : Program} {w : World} {base : Nat} {spare : Nat → Bool} {held : Bool}

/-- the cell at i, and that it reads by itself; D: what the whole weighs -/
def LeafIs (enc : TypeId × Value → H) (P : Program) (w : World) (base : Nat) (spare : Nat → Bool) (held : Bool) (D : List Nat) (cs : List Value) (i : Nat) (u : TypeId) : Prop :=
  ∃ v x n, cs[i]? = some v ∧ DataW.trod enc P w base spare held n u [v] = some x ∧ ∀ m ∈ x.1.weights P u, m ∈ D

theorem slice_at {cs : List Value} {o c j : Nat} {v : Value} (h : ((cs.drop o).take c)[j]? = some v) : cs[o + j]? = some v := by
  have hj : j < c := by
    have := (List.getElem?_eq_some_iff.1 h).1
    simp at this; omega
  rw [List.getElem?_take_of_lt hj, List.getElem?_drop] at h
  exact h
theorem weights_all {e : TypeId} : ∀ {ds : List (DataW H)} {j : Nat} {d : DataW H}, ds[j]? = some d → ∀ m ∈ d.weights P e, m ∈ DataW.weightsAll P e ds
  | d0 :: ds, 0, d, hd, m, hm => by
    simp only [List.getElem?_cons_zero, Option.some.injEq] at hd
    subst hd
    simp only [DataW.weightsAll, List.mem_append]; exact .inl hm
  | d0 :: ds, j + 1, d, hd, m, hm => by
    simp only [DataW.weightsAll, List.mem_append]
    exact .inr (weights_all (j := j) (by simpa using hd) m hm)

theorem leafAt_of : ∀ {n : Nat} {t : TypeId} {i : Nat} {u : TypeId} (_ : leafAt P n t i = some u) {fuel : Nat} {cs : List Value} {x : DataW H × List MemPlace},
    DataW.trod enc P w base spare held fuel t cs = some x → LeafIs enc P w base spare held (x.1.weights P t) cs i u
  | 0, _, _, _, h, _, _, _, _ => by cases h
  | n + 1, t, i, u, h, fuel, cs, x, hx => by
    unfold leafAt at h
    split at h
    · rename_i fs hfs
      split at h
      · rename_i f hf
        obtain ⟨xs, m, _, hxx, hlen, hxl, hg⟩ := DataW.trod_struct hfs hx
        have hp := List.find?_some hf
        simp only [Bool.and_eq_true, decide_eq_true_eq] at hp
        obtain ⟨j, hj⟩ := List.mem_iff_getElem?.1 (List.mem_of_find?_eq_some hf)
        have hjl : j < fs.size := by have := (List.getElem?_eq_some_iff.1 hj).1; simpa using this
        have h1 := hg j f (by rw [← Array.getElem?_toList]; exact hj)
        rw [List.getElem?_eq_getElem (by omega)] at h1
        obtain ⟨v, y, k, hv, hy, hw⟩ := leafAt_of h h1
        refine ⟨v, y, k, ?_, hy, fun q hq => ?_⟩
        · have := slice_at hv
          rwa [show f.offset + (i - f.offset) = i from by omega] at this
        · have h2 := hw q hq
          rw [hxx]
          simp only [DataW.weights, hfs]
          exact DataW.weights_mem_each (ts := fs.toList.map (·.type)) (ds := xs.map (·.1)) (j := j) (by rw [List.getElem?_map, hj]; rfl) (by rw [List.getElem?_map, List.getElem?_eq_getElem (by omega)]; rfl) q h2
      · cases h
    · rename_i m e he
      split at h
      · rename_i hm
        obtain ⟨xs, k, _, hxx, hlen, hxl, hg⟩ := DataW.trod_array he hx
        have h1 := hg (i / P.cellsOf e) hm
        rw [List.getElem?_eq_getElem (by omega)] at h1
        obtain ⟨v, y, k, hv, hy, hw⟩ := leafAt_of h h1
        refine ⟨v, y, k, ?_, hy, fun q hq => ?_⟩
        · have := slice_at hv
          rwa [Nat.mul_comm, Nat.div_add_mod] at this
        · have h2 := hw q hq
          rw [hxx]
          simp only [DataW.weights, he]
          exact weights_all (ds := xs.map (·.1)) (j := i / P.cellsOf e) (by rw [List.getElem?_map, List.getElem?_eq_getElem (by omega)]; rfl) q h2
      · cases h
    · split at h
      · rename_i hi
        subst hi
        injection h with h
        subst h
        obtain ⟨k, hk, _⟩ := DataW.trod_int (by assumption) hx
        exact ⟨_, x, fuel, by rw [hk]; rfl, by rw [← hk]; exact hx, fun q hq => hq⟩
      · cases h
    · split at h
      · rename_i hi
        subst hi
        injection h with h
        subst h
        obtain ⟨k, hk, _⟩ := DataW.trod_bool (by assumption) hx
        exact ⟨_, x, fuel, by rw [hk]; rfl, by rw [← hk]; exact hx, fun q hq => hq⟩
      · cases h
    · split at h
      · rename_i hi
        subst hi
        injection h with h
        subst h
        obtain ⟨k, hk, _⟩ := DataW.trod_string (by assumption) hx
        exact ⟨_, x, fuel, by rw [hk]; rfl, by rw [← hk]; exact hx, fun q hq => hq⟩
      · cases h
    · split at h
      · rename_i hi
        subst hi
        injection h with h
        subst h
        rcases DataW.trod_slice (by assumption) hx with ⟨hk, _⟩ | ⟨_, _, _, _, _, _, _, hk, _⟩
        · exact ⟨_, x, fuel, by rw [hk]; rfl, by rw [← hk]; exact hx, fun q hq => hq⟩
        · exact ⟨_, x, fuel, by rw [hk]; rfl, by rw [← hk]; exact hx, fun q hq => hq⟩
      · cases h
    · cases h

variable {D : List Nat} {cs : List Value} {i : Nat} {u : TypeId}
theorem leaf_int {k : IntKind} (h : LeafIs enc P w base spare held D cs i u) (hu : P.underlying u = some (.int k)) : ∃ n, cs[i]? = some (.int k n) ∧ (Lit.int k n).wf = true := by
  obtain ⟨v, x, n, hv, hx, _⟩ := h
  obtain ⟨m, hm, _, hw⟩ := DataW.trod_int hu hx
  exact ⟨m, by rw [hv]; injection hm with hm; rw [hm], hw⟩
theorem leaf_string (h : LeafIs enc P w base spare held D cs i u) (hu : P.underlying u = some .string) (hD : ∀ m ∈ D, m ≤ reachBytes) : ∃ s, cs[i]? = some (.string s) ∧ s.size ≤ 140737488351232 := by
  obtain ⟨v, x, n, hv, hx, hw⟩ := h
  obtain ⟨m, hm, hx', _⟩ := DataW.trod_string hu hx
  refine ⟨m, by rw [hv]; injection hm with hm; rw [hm], ?_⟩
  exact hD _ (hw m.data.toList.length (by rw [hx']; simp [DataW.weights]))
theorem sized_at {ts : List TypeId} {ds : List (DataW H)} (h : (DataW.weightsEach P ts ds).all (· ≤ reachBytes) = true) {j : Nat} {t : TypeId} {d : DataW H} (ht : ts[j]? = some t) (hd : ds[j]? = some d) : ∀ m ∈ d.weights P t, m ≤ reachBytes := fun m hm => by
  have := List.all_eq_true.1 h _ (DataW.weights_mem_each ht hd m hm)
  simpa using this
end

theorem arr_ext {cs ds : Array Value} (hz : cs.size = ds.size) (h : ∀ j, j < ds.size → cs.toList[j]? = ds[j]?) : cs = ds := by
  refine Array.ext hz (fun j h1 h2 => ?_)
  have := h j h2
  rw [Array.getElem?_toList, Array.getElem?_eq_getElem h1, Array.getElem?_eq_getElem h2] at this
  exact Option.some.inj this
end Go.Proofs.YtilfcikhipadpaaGreatDoor
end
