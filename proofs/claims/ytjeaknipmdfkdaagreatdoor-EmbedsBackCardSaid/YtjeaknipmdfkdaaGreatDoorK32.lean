/- Several texts of this claim, one behind the other. -/
import Derived.Test.YtjeaknipmdfkdaaGreatDoorK31
import Derived.ProofKit
import Derived.OpenShut
import Derived.SizedLaws
import Derived.Test.YtjeaknipmdfkdaaGreatDoorK0
import Derived.Test.YtjeaknipmdfkdaaGreatDoorK29
import Derived.Test.YtjeaknipmdfkdaaGreatDoorRows
import Derived.LaidMore
import Derived.Stop.Joined
import Derived.MakeChecks

section
/- EmbedsInner: the joins. -/
set_option linter.unusedVariables false
set_option linter.unusedSimpArgs false
namespace Go.Proofs.YtjeaknipmdfkdaaGreatDoor
open Go.RowKit

theorem rest_size (s : ByteArray) : (ipRest s).size ≤ s.size := by
  unfold ipRest
  split
  · rw [ByteArray.size_extract]; omega
  · exact Nat.zero_le _
theorem holdsE (d : ByteArray) (k : Nat) (r : Bool) (hd : d.size ≤ 140737488351232) (hr : holds [(L d).take k] = r) (W : World) (g : Nat) (hg : g = W.heap.size) :
    Calls Tryz.prog 23 #[.slice (some ⟨g, 0, none⟩) 1 1] (W.alloc (.cells #[.string (d.extract 0 k)] 9)) (Ret (.bool r) (W.alloc (.cells #[.string (d.extract 0 k)] 9))) := by
  have c := Holds (some ⟨g, 0, none⟩) 1 1 [d.extract 0 k] (W.alloc (.cells #[.string (d.extract 0 k)] 9)) (by subst hg; exact Row.freshN W #[.string (d.extract 0 k)] 9 _ _ rfl rfl) (by
    intro x hx
    simp only [List.mem_singleton] at hx
    subst hx
    rw [ByteArray.size_extract]; omega) (by omega)
  rw [List.map_singleton, L_extract, List.drop_zero, Nat.sub_zero, hr] at c
  exact c
theorem tkOk_yes {s : ByteArray} {n : Int} (h : emsWhy s = 0) (hl : n < (seenOf s).l) : tkOk s n = true := by unfold tkOk; rw [decide_eq_true h, decide_eq_true hl]; rfl
theorem tkOk_no {s : ByteArray} {n : Int} (h : ¬ (emsWhy s = 0 ∧ n < (seenOf s).l)) : tkOk s n = false := by
  unfold tkOk
  by_cases h1 : emsWhy s = 0
  · rw [decide_eq_false (fun h2 => h ⟨h1, h2⟩), Bool.and_false]
  · rw [decide_eq_false h1]; rfl
theorem tr_no {s : ByteArray} (h : ¬ (emsWhy s = 0 ∧ 1 < (seenOf s).l)) : trWhy s ≠ 0 := by
  unfold trWhy
  by_cases h1 : emsWhy s = 0
  · rw [if_neg (by omega)]
    obtain ⟨q1, _, _⟩ := ems_seen h1
    unfold rwWhy
    rw [if_neg (by omega), if_pos (by have := fun h2 => h ⟨h1, h2⟩; omega)]
    decide
  · rw [if_pos h1]; exact h1
theorem inTup_of {s : ByteArray} (h : emsWhy s = 0) : inTup s = emTup (L (emData s)) := by unfold inTup; rw [if_pos h]
set_option maxHeartbeats 2000000 in
theorem EmbedsInner_walk (s : ByteArray) (oa ob oc od a b c d : Int) (w : World) (T0 : Tabs w) (hs : s.size ≤ 140737488351232) (hoa : 0 ≤ oa ∧ oa ≤ 4294967295) (hob : 0 ≤ ob ∧ ob ≤ 65535) (hoc : 0 ≤ oc ∧ oc ≤ 4294967295) (hod : 0 ≤ od ∧ od ≤ 65535) (ha : 0 ≤ a ∧ a ≤ 4294967295) (hb : 0 ≤ b ∧ b ≤ 65535) (hc : 0 ≤ c ∧ c ≤ 4294967295) (hd : 0 ≤ d ∧ d ≤ 65535) :
    Calls Tryz.prog 7 #[.string s, .agg #[.int .u32 oa, .int .u16 ob, .int .u32 oc, .int .u16 od, .int .u32 a, .int .u16 b, .int .u32 c, .int .u16 d]] w (Ret (.bool true) w) := by
  by_cases hl : (2500 : Int) < (s.size : Int)
  · exact inner_long s oa ob oc od a b c d w T0 hl
  have p0 := fun W K => takenE s 1 W K hs
  have p1 := fun W K => e_Translate oa ob oc od a b c d s W K hoa hob hoc hod ha hb hc hd hs
  by_cases ht : emsWhy s = 0 ∧ 1 < (seenOf s).l
  · rw [tkOk_yes ht.1 ht.2, inTup_of ht.1] at p0
    obtain ⟨u, hu⟩ : ∃ u, trOut s oa ob oc od a b c d = u := ⟨_, rfl⟩
    obtain ⟨e1, e2, e3, e4, e5, e6, e7, e8, e9, e10, e11, e12, e13, e14, e15, e16, e17⟩ := em_inner (ob := ob) (od := od) ht.1 ht.2 hoa hoc ha hb hc hd u hu
    rw [hu, e1] at p1
    have hus : u.size ≤ 140737488351232 := by omega
    have p2 := fun W K => e_Inner W u K hus
    rw [inTup_of e2, e2, e10] at p2
    have p3 := fun W K => tu_Of u W K hus
    rw [e4, e3] at p3
    have r1 := rest_size s; have r2 := rest_size u
    have p4 := fun W => dataE s (ipRest s) (emData s) W hs rfl e16 (by omega) rfl
    have p5 := fun W => dataE u (ipRest u) (emData u) W hus rfl e17 (by omega) rfl
    have p6 := fun W => headE (emData s) W (by omega)
    have p7 := fun W => headE (emData u) W (by omega)
    have ek : emAt (L (emData u)) = emAt (L (emData s)) := by unfold emAt emEnd; rw [e11]
    rw [ek] at p7
    have hb0 := at_bd (L (emData s)) (emAt (L (emData s)))
    have hk60 : emAt (L (emData s)) ≤ 60 := by unfold emAt emEnd; have := at_bd (L (emData s)) 0; omega
    have hds : (emData s).size ≤ 140737488351232 := by
      have : (emData s).size ≤ (ipRest s).size := by unfold emData; show ((ipRest s).extract 8 (ipRest s).size).size ≤ _; rw [ByteArray.size_extract]; omega
      omega
    have p8 := fun W K => i_Query ⟨at_ (L (emData s)) (emAt (L (emData s))), 0, 0, { data := #[] }, { data := #[] }⟩ W ⟨hb0, ⟨(by decide : (0 : Int) ≤ 0), (by decide : (0 : Int) ≤ 255)⟩, ⟨(by decide : (0 : Int) ≤ 0), (by decide : (0 : Int) ≤ 65535)⟩, Nat.zero_le _, Nat.zero_le _⟩ K
    simp only at p8
    have ea : qAsk ⟨at_ (L (emData s)) (emAt (L (emData s))), 0, 0, { data := #[] }, { data := #[] }⟩ = decide (kindOf (at_ (L (emData s)) (emAt (L (emData s)))) = 1) := qAsk_of rfl
    rw [ea] at p8
    have p9 := fun W => ip_Parse s W hs
    have p10 := fun W => ip_Parse u W hus
    rw [e5] at p9; rw [e6] at p10
    unfold Hd.cells at p9 p10
    have p11 := holdsE (emData s) (emAt (L (emData s))) _ hds rfl
    have p12 := holdsE (emData u) (emAt (L (emData s))) _ (by omega) e14.symm
    have p13 := fun W => i_Check (ipRest s) W (by omega)
    have p14 := fun W => i_Check (ipRest u) W (by omega)
    rw [decide_eq_true e16, e15] at p13
    rw [decide_eq_true e17] at p14
    have i0 : emAt (L (emData s)) < (emData s).size := by omega
    have e0 : ((((emData s)[emAt (L (emData s))]'i0).toNat : Nat) : Int) = at_ (L (emData s)) (emAt (L (emData s))) := by rw [getElem_L _ _ i0]; rfl
    by_cases h1 : at_ (L (emData s)) 9 = 1
    · rw [show emTup (L (emData s)) = ⟨1, (emTup (L (emData s))).a, (emTup (L (emData s))).b, (emTup (L (emData s))).c, (emTup (L (emData s))).d⟩ from by rw [show (1 : Int) = (emTup (L (emData s))).p from by rw [emTup_p, h1]]] at p0
      unfold emWant at p2
      rw [if_pos h1] at p2
      by_cases h2 : kindOf (at_ (L (emData s)) (emAt (L (emData s)))) = 1
      · rw [if_pos h2, h1] at p2
        rw [decide_eq_true h2] at p8
        exact inner_ask s u _ _ _ _ _ _ _ _ _ _ _ _ _ _ oa ob oc od a b c d 0 _ _ _ _ _ _ _ _ _ _ _ _ _ _ _ _ _ _ _ _ _ w T0 hl e7 (by omega) i0 e0 (by omega) (by omega) (by omega) hk60 p0 p1 p2 p3 p4 p5 p6 p7 p8 p9 p10 p11 p12 p13 p14
      · rw [if_neg h2, h1] at p2
        rw [decide_eq_false h2] at p8
        exact inner_told s u _ _ _ _ _ _ _ _ _ _ _ _ _ _ oa ob oc od a b c d 0 _ _ _ _ _ _ _ _ _ _ _ _ _ _ _ _ _ _ _ _ _ w T0 hl e7 (by omega) i0 e0 (by omega) (by omega) (by omega) hk60 p0 p1 p2 p3 p4 p5 p6 p7 p8 p9 p10 p11 p12 p13 p14
    · unfold emWant at p2
      rw [if_neg h1] at p2
      rw [← emTup_p] at p2
      exact inner_flow s u _ _ _ _ _ _ _ _ _ _ _ _ false _ oa ob oc od a b c d _ _ _ _ _ _ _ _ _ _ _ _ _ _ _ _ _ _ _ _ _ _ w T0 hl (by rw [emTup_p]; simpa using h1) e7 (by omega) i0 e0 (by omega) (by omega) (by omega) hk60 p0 p1 p2 p3 p4 p5 p6 p7 trivial p9 p10 p11 p12 p13 p14
  · rw [tkOk_no ht] at p0
    have hr := tr_no ht
    have ho : trOut s oa ob oc od a b c d = { data := #[] } := by unfold trOut; rw [if_neg hr]
    rw [ho] at p1
    exact inner_no s oa ob oc od a b c d _ _ _ _ _ _ w T0 hl (by simpa using hr) p0 p1
end Go.Proofs.YtjeaknipmdfkdaaGreatDoor
end

section
/- How an argument that is a struct or an array (of whatever depth) of one-cell leaves reads: each cell by its place. No program. -/
set_option linter.unusedVariables false
namespace Go.Proofs.YtjeaknipmdfkdaaGreatDoor
open Go.RowKit Go.ChangeShapes Go.WideShapes

/-- the type of the leaf at cell i of a value of type t -/
def leafAt (P : Program) : Nat → TypeId → Nat → Option TypeId
  | 0, _, _ => none
  | n + 1, t, i =>
    match P.underlying t with
    | some (.struct fs) =>
      match fs.toList.find? (fun f => decide (f.offset ≤ i) && decide (i < f.offset + P.cellsOf f.type)) with
      | some f => leafAt P n f.type (i - f.offset)
      | none => none
    | some (.array m e) => if i / P.cellsOf e < m then leafAt P n e (i % P.cellsOf e) else none
    | some (.int _) | some .bool | some .string | some (.slice _) => if i = 0 then some t else none
    | _ => none

section
variable {H : Type} {enc : TypeId × Value → H} {P : Program} {w : World} {base : Nat} {spare : Nat → Bool} {held : Bool}

/-- the cell at i, and that it reads by itself; D: what the whole weighs -/
def LeafIs (enc : TypeId × Value → H) (P : Program) (w : World) (base : Nat) (spare : Nat → Bool) (held : Bool) (D : List Nat) (cs : List Value) (i : Nat) (u : TypeId) : Prop :=
  ∃ v x n, cs[i]? = some v ∧ DataW.trod enc P w base spare held n u [v] = some x ∧ ∀ m ∈ x.1.weights P u, m ∈ D

theorem slice_at {cs : List Value} {o c j : Nat} {v : Value} (h : ((cs.drop o).take c)[j]? = some v) : cs[o + j]? = some v := by
  have hj : j < c := by
    have := (List.getElem?_eq_some_iff.1 h).1
    simp at this; omega
  rw [List.getElem?_take_of_lt hj, List.getElem?_drop] at h
  exact h
theorem weights_all {e : TypeId} : ∀ {ds : List (DataW H)} {j : Nat} {d : DataW H}, ds[j]? = some d → ∀ m ∈ d.weights P e, m ∈ DataW.weightsAll P e ds
  | d0 :: ds, 0, d, hd, m, hm => by
    simp only [List.getElem?_cons_zero, Option.some.injEq] at hd
    subst hd
    simp only [DataW.weightsAll, List.mem_append]; exact .inl hm
  | d0 :: ds, j + 1, d, hd, m, hm => by
    simp only [DataW.weightsAll, List.mem_append]
    exact .inr (weights_all (j := j) (by simpa using hd) m hm)

theorem leafAt_of : ∀ {n : Nat} {t : TypeId} {i : Nat} {u : TypeId} (_ : leafAt P n t i = some u) {fuel : Nat} {cs : List Value} {x : DataW H × List MemPlace},
    DataW.trod enc P w base spare held fuel t cs = some x → LeafIs enc P w base spare held (x.1.weights P t) cs i u
  | 0, _, _, _, h, _, _, _, _ => by cases h
  | n + 1, t, i, u, h, fuel, cs, x, hx => by
    unfold leafAt at h
    split at h
    · rename_i fs hfs
      split at h
      · rename_i f hf
        obtain ⟨xs, m, _, hxx, hlen, hxl, hg⟩ := DataW.trod_struct hfs hx
        have hp := List.find?_some hf
        simp only [Bool.and_eq_true, decide_eq_true_eq] at hp
        obtain ⟨j, hj⟩ := List.mem_iff_getElem?.1 (List.mem_of_find?_eq_some hf)
        have hjl : j < fs.size := by have := (List.getElem?_eq_some_iff.1 hj).1; simpa using this
        have h1 := hg j f (by rw [← Array.getElem?_toList]; exact hj)
        rw [List.getElem?_eq_getElem (by omega)] at h1
        obtain ⟨v, y, k, hv, hy, hw⟩ := leafAt_of h h1
        refine ⟨v, y, k, ?_, hy, fun q hq => ?_⟩
        · have := slice_at hv
          rwa [show f.offset + (i - f.offset) = i from by omega] at this
        · have h2 := hw q hq
          rw [hxx]
          simp only [DataW.weights, hfs]
          exact DataW.weights_mem_each (ts := fs.toList.map (·.type)) (ds := xs.map (·.1)) (j := j) (by rw [List.getElem?_map, hj]; rfl) (by rw [List.getElem?_map, List.getElem?_eq_getElem (by omega)]; rfl) q h2
      · cases h
    · rename_i m e he
      split at h
      · rename_i hm
        obtain ⟨xs, k, _, hxx, hlen, hxl, hg⟩ := DataW.trod_array he hx
        have h1 := hg (i / P.cellsOf e) hm
        rw [List.getElem?_eq_getElem (by omega)] at h1
        obtain ⟨v, y, k, hv, hy, hw⟩ := leafAt_of h h1
        refine ⟨v, y, k, ?_, hy, fun q hq => ?_⟩
        · have := slice_at hv
          rwa [Nat.mul_comm, Nat.div_add_mod] at this
        · have h2 := hw q hq
          rw [hxx]
          simp only [DataW.weights, he]
          exact weights_all (ds := xs.map (·.1)) (j := i / P.cellsOf e) (by rw [List.getElem?_map, List.getElem?_eq_getElem (by omega)]; rfl) q h2
      · cases h
    · split at h
      · rename_i hi
        subst hi
        injection h with h
        subst h
        obtain ⟨k, hk, _⟩ := DataW.trod_int (by assumption) hx
        exact ⟨_, x, fuel, by rw [hk]; rfl, by rw [← hk]; exact hx, fun q hq => hq⟩
      · cases h
    · split at h
      · rename_i hi
        subst hi
        injection h with h
        subst h
        obtain ⟨k, hk, _⟩ := DataW.trod_bool (by assumption) hx
        exact ⟨_, x, fuel, by rw [hk]; rfl, by rw [← hk]; exact hx, fun q hq => hq⟩
      · cases h
    · split at h
      · rename_i hi
        subst hi
        injection h with h
        subst h
        obtain ⟨k, hk, _⟩ := DataW.trod_string (by assumption) hx
        exact ⟨_, x, fuel, by rw [hk]; rfl, by rw [← hk]; exact hx, fun q hq => hq⟩
      · cases h
    · split at h
      · rename_i hi
        subst hi
        injection h with h
        subst h
        rcases DataW.trod_slice (by assumption) hx with ⟨hk, _⟩ | ⟨_, _, _, _, _, _, _, hk, _⟩
        · exact ⟨_, x, fuel, by rw [hk]; rfl, by rw [← hk]; exact hx, fun q hq => hq⟩
        · exact ⟨_, x, fuel, by rw [hk]; rfl, by rw [← hk]; exact hx, fun q hq => hq⟩
      · cases h
    · cases h

variable {D : List Nat} {cs : List Value} {i : Nat} {u : TypeId}
theorem leaf_int {k : IntKind} (h : LeafIs enc P w base spare held D cs i u) (hu : P.underlying u = some (.int k)) : ∃ n, cs[i]? = some (.int k n) ∧ (Lit.int k n).wf = true := by
  obtain ⟨v, x, n, hv, hx, _⟩ := h
  obtain ⟨m, hm, _, hw⟩ := DataW.trod_int hu hx
  exact ⟨m, by rw [hv]; injection hm with hm; rw [hm], hw⟩
theorem leaf_bool (h : LeafIs enc P w base spare held D cs i u) (hu : P.underlying u = some .bool) : ∃ b, cs[i]? = some (.bool b) := by
  obtain ⟨v, x, n, hv, hx, _⟩ := h
  obtain ⟨m, hm, _⟩ := DataW.trod_bool hu hx
  exact ⟨m, by rw [hv]; injection hm with hm; rw [hm]⟩
theorem leaf_string (h : LeafIs enc P w base spare held D cs i u) (hu : P.underlying u = some .string) (hD : ∀ m ∈ D, m ≤ reachBytes) : ∃ s, cs[i]? = some (.string s) ∧ s.size ≤ 140737488351232 := by
  obtain ⟨v, x, n, hv, hx, hw⟩ := h
  obtain ⟨m, hm, hx', _⟩ := DataW.trod_string hu hx
  refine ⟨m, by rw [hv]; injection hm with hm; rw [hm], ?_⟩
  exact hD _ (hw m.data.toList.length (by rw [hx']; simp [DataW.weights]))
theorem okWide_array {r : Reach} {b n : Nat} {t e : TypeId} {v : Value} (ht : P.underlying t = some (.array n e)) (h : Value.okWide P w r b t v) : ∃ cs, v = .agg cs ∧ cs.size = P.cellsOf t := by
  simp only [Value.okWide, ht] at h
  obtain ⟨cs, h1, h2, _⟩ := h
  exact ⟨cs, h1, h2⟩
theorem sized_at {ts : List TypeId} {ds : List (DataW H)} (h : (DataW.weightsEach P ts ds).all (· ≤ reachBytes) = true) {j : Nat} {t : TypeId} {d : DataW H} (ht : ts[j]? = some t) (hd : ds[j]? = some d) : ∀ m ∈ d.weights P t, m ≤ reachBytes := fun m hm => by
  have := List.all_eq_true.1 h _ (DataW.weights_mem_each ht hd m hm)
  simpa using this
end

theorem arr_ext {cs ds : Array Value} (hz : cs.size = ds.size) (h : ∀ j, j < ds.size → cs.toList[j]? = ds[j]?) : cs = ds := by
  refine Array.ext hz (fun j h1 h2 => ?_)
  have := h j h2
  rw [Array.getElem?_toList, Array.getElem?_eq_getElem h1, Array.getElem?_eq_getElem h2] at this
  exact Option.some.inj this
end Go.Proofs.YtjeaknipmdfkdaaGreatDoor
end

section
/- What the cards of rewrite list, out of what the row lists; the heap that the program's own door leaves meets it. -/
set_option linter.unusedVariables false
namespace Go.Proofs.YtjeaknipmdfkdaaGreatDoor
open Go.ChangeShapes Go.WideShapes Go.ChangeAt Go.WideMaps Go.WideElems Go.RowKit Go.Maps

def laidTabs : List (String × DataW Unit) := [("math/bits.deBruijn32tab", Rows.laid_math_bits_deBruijn32tab), ("math/bits.deBruijn64tab", Rows.laid_math_bits_deBruijn64tab), ("internal/strconv.uint64pow10", Rows.laid_internal_strconv_uint64pow10), ("porter/icmp.kinds", Rows.laid_porter_icmp_kinds), ("porter/tuples.words", Rows.laid_porter_tuples_words)]
theorem gKinds : Tryz.prog.globalNamed "porter/icmp.kinds" = some 0 := by kernel_rfl
theorem tKinds : (Tryz.prog.globals[0]?).map (·.type) = some 106 := by kernel_rfl
theorem gWords : Tryz.prog.globalNamed "porter/tuples.words" = some 1 := by kernel_rfl
theorem tWords : (Tryz.prog.globals[1]?).map (·.type) = some 116 := by kernel_rfl
theorem gPow : Tryz.prog.globalNamed "internal/strconv.uint64pow10" = some 3 := by kernel_rfl
theorem tPow : (Tryz.prog.globals[3]?).map (·.type) = some 213 := by kernel_rfl
theorem pow_is : (Rows.laid_internal_strconv_uint64pow10 : DataW Unit) = Lib.tabData .u64 Lib.pow10Tab := by kernel_rfl
set_option maxRecDepth 100000 in
theorem tabs_of_laid {W : World} (h : laidMetH Tryz.prog laidTabs W) : Tabs W := by
  rw [MakeChecks.laidMetH_plain _ _ _ (by kernel_rfl)] at h
  obtain ⟨ps, ⟨_, _, _, _, _, _, _, _, _, _, ⟨_, _, _, _, _, _, _, _, _, _, ⟨g2, t2, cs2, f2, p2, q2, hg2, ht2, hv2, hd2, ⟨g0, t0, cs0, f0, p0, q0, hg0, ht0, hv0, hd0, ⟨g1, t1, cs1, f1, p1, q1, hg1, ht1, hv1, hd1, _, _⟩, _⟩, _⟩, _⟩, _⟩, _, _⟩ := h
  refine ⟨?_, ?_, ?_⟩
  · obtain rfl := Option.some.inj (gKinds.symm.trans hg0)
    obtain rfl := Option.some.inj (tKinds.symm.trans ht0)
    rcases open_map Tryz.underlying106 hd0 with ⟨_, hx⟩ | ⟨bm, es, clock, m, rfl, hcs, hb, _, F, hx⟩
    · simp [Rows.laid_porter_icmp_kinds] at hx
    simp only [Prod.mk.injEq] at hx
    have hcell : W.cell? ⟨0, 0, none⟩ = some (.map (some bm)) := by
      have := World.var?_cell hg0 hv0 0
      rw [Array.eq_one_of_toList hcs] at this
      simpa using this
    have hown := World.ownsMap_of_fit (R := plainElem Tryz.prog 3) hb F (fun x _ z hz => elemAt_plainElem_int Tryz.underlying3 hz)
    rw [← hx.1] at hown
    exact ⟨bm, _, hcell, hown⟩
  · obtain rfl := Option.some.inj (gWords.symm.trans hg1)
    obtain rfl := Option.some.inj (tWords.symm.trans ht1)
    rcases open_map Tryz.underlying116 hd1 with ⟨_, hx⟩ | ⟨bm, es, clock, m, rfl, hcs, hb, _, F, hx⟩
    · simp [Rows.laid_porter_tuples_words] at hx
    simp only [Prod.mk.injEq] at hx
    have hcell : W.cell? ⟨1, 0, none⟩ = some (.map (some bm)) := by
      have := World.var?_cell hg1 hv1 0
      rw [Array.eq_one_of_toList hcs] at this
      simpa using this
    have hown := World.ownsMap_of_fit (R := plainElem Tryz.prog 9) hb F (fun x _ z hz => elemAt_plainElem_string Tryz.underlying9 hz)
    rw [← hx.1] at hown
    exact ⟨bm, _, hcell, hown⟩
  · obtain rfl := Option.some.inj (gPow.symm.trans hg2)
    obtain rfl := Option.some.inj (tPow.symm.trans ht2)
    rw [pow_is] at hd2
    show W.var? Tryz.prog _ = _
    rw [hv2, ← Lib.cells_of_tab (e := 206) Tryz.underlying213 Tryz.underlying206 (by kernel_rfl) (by kernel_rfl) hd2]
theorem tabs_met (os : Os) (args : Array Value) : laidMetH Tryz.prog laidTabs ((World.doorLaid Tryz.prog 400 os).forCall (fun _ _ => 0) ⟨#[], args, []⟩).memory :=
  laidMetH_of_parts3 (fuel := 8) (laidMet_of_run' 8 (by kernel_rfl) (by kernel_rfl)) (by kernel_rfl) (by kernel_rfl)
end Go.Proofs.YtjeaknipmdfkdaaGreatDoor
end
