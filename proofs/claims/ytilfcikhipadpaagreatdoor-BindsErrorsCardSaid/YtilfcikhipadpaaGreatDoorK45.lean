/- Several texts of this claim, one behind the other. -/
import Derived.Test.YtilfcikhipadpaaGreatDoorK34d
import Derived.ProofKit
import Derived.LaidMore
import Derived.OpenShut
import Derived.Stop.Joined
import Derived.MakeChecks

section
/- What the cards of binds (Goes, Errors) list, out of what the row lists; the heap that the program's own door leaves meets it. -/
set_option linter.unusedVariables false
namespace Go.Proofs.YtilfcikhipadpaaGreatDoor
open Go.ChangeShapes Go.WideShapes Go.ChangeAt Go.WideMaps Go.WideElems Go.RowKit Go.Maps

def lastsTab : List (List Int) := [[0, 0, 0, 0, 0, 0, 0, 0], [0, 120, 300, 0, 0, 0, 0, 0], [0, 60, 60, 0, 0, 0, 0, 0], [0, 240, 240, 7440, 240, 240, 240, 240]]
theorem lasts_is : (Rows.laid_porter_track_lasts : DataW Unit) = .agg (lastsTab.map fun r => .agg (r.map fun n => .lit (.int .i64 n))) := rfl
theorem lasts_time : ∀ i : Fin 4, ∀ j : Fin 8, (lastsTab.getD i.val []).getD j.val 0 = timeV (i.val : Nat) (j.val : Nat) := by decide
theorem lasts_size : lastsTab.length = 4 ∧ ∀ i : Fin 4, (lastsTab.getD i.val []).length = 8 := by decide
theorem map_fst_at {α β γ : Type} {xs : List (α × β)} {l : List γ} {f : γ → α} (h : xs.map (·.1) = l.map f) {i : Nat} (hi : i < l.length) : ∃ y, xs[i]? = some (f l[i], y) := by
  have hx : i < xs.length := by have := congrArg List.length h; simp at this; omega
  refine ⟨xs[i].2, ?_⟩
  rw [List.getElem?_eq_getElem hx]
  have h1 : (xs.map (·.1))[i]? = (l.map f)[i]? := by rw [h]
  rw [List.getElem?_map, List.getElem?_map, List.getElem?_eq_getElem hx, List.getElem?_eq_getElem hi] at h1
  simp only [Option.map_some, Option.some.injEq] at h1
  rw [← h1]
theorem lasts_cells {w : World} {base : Nat} {spare : Nat → Bool} {held : Bool} {fuel : Nat} {enc : TypeId × Value → Unit} {cs : List Value} {ps : List MemPlace}
    (h : DataW.trod enc Tryz.prog w base spare held fuel 273 cs = some (Rows.laid_porter_track_lasts, ps)) (i j : Nat) (hi : i < 4) (hj : j < 8) : cs[i * 8 + j]? = some (.int .i64 (timeV i j)) := by
  obtain ⟨xs, m, _, hx, _, _, hg⟩ := DataW.trod_array (n := 4) (e := 272) (by kernel_rfl) h
  rw [lasts_is] at hx
  simp only [Prod.mk.injEq, DataW.agg.injEq] at hx
  obtain ⟨y, hy⟩ := map_fst_at (i := i) hx.1.symm (by rw [lasts_size.1]; exact hi)
  have h1 := hg i hi
  rw [hy, show Tryz.prog.cellsOf 272 = 8 from by kernel_rfl] at h1
  obtain ⟨zs, m2, _, hz, _, _, hg2⟩ := DataW.trod_array (n := 8) (e := 3) (by kernel_rfl) h1
  simp only [Prod.mk.injEq, DataW.agg.injEq] at hz
  have e1 : lastsTab[i]'(by rw [lasts_size.1]; exact hi) = lastsTab.getD i [] := by rw [List.getD_eq_getElem?_getD, List.getElem?_eq_getElem (by rw [lasts_size.1]; exact hi)]; rfl
  have e2 := lasts_size.2 ⟨i, hi⟩
  rw [e1] at hz
  obtain ⟨u, hu⟩ := map_fst_at (i := j) hz.1.symm (by rw [e2]; exact hj)
  have h2 := hg2 j hj
  rw [hu, show Tryz.prog.cellsOf 3 = 1 from by kernel_rfl] at h2
  obtain ⟨k, hk, hv, _⟩ := DataW.trod_int Tryz.underlying3 h2
  simp only [Prod.mk.injEq, DataW.lit.injEq, Lit.int.injEq, true_and] at hv
  have e3 := lasts_time ⟨i, hi⟩ ⟨j, hj⟩
  simp only at e3
  rw [List.getD_eq_getElem?_getD (l := lastsTab.getD i []), List.getElem?_eq_getElem (by rw [e2]; exact hj), Option.getD_some] at e3
  have hcell : (((cs.drop (i * 8)).take 8).drop (j * 1))[0]? = some (.int .i64 k) := by
    have := congrArg (fun l => l[0]?) hk
    simpa using this
  rw [List.getElem?_drop, Nat.mul_one, Nat.add_zero, List.getElem?_take_of_lt hj, List.getElem?_drop] at hcell
  rw [hcell, ← hv.1, e3]
def laidG : List (String × DataW Unit) := [("porter/track.lasts", Rows.laid_porter_track_lasts), ("porter/icmp.kinds", Rows.laid_porter_icmp_kinds), ("porter/tuples.words", Rows.laid_porter_tuples_words)]
theorem gLasts : Tryz.prog.globalNamed "porter/track.lasts" = some 0 := by kernel_rfl
theorem tLasts : (Tryz.prog.globals[0]?).map (·.type) = some 273 := by kernel_rfl
theorem gWords : Tryz.prog.globalNamed "porter/tuples.words" = some 1 := by kernel_rfl
theorem tWords : (Tryz.prog.globals[1]?).map (·.type) = some 299 := by kernel_rfl
theorem gKinds : Tryz.prog.globalNamed "porter/icmp.kinds" = some 2 := by kernel_rfl
theorem tKinds : (Tryz.prog.globals[2]?).map (·.type) = some 303 := by kernel_rfl
set_option maxRecDepth 100000 in
theorem g_of_laid {W : World} (h : laidMetH Tryz.prog laidG W) : Lasts W ∧ Kinds W ∧ Wds W := by
  rw [MakeChecks.laidMetH_plain _ _ _ (by kernel_rfl)] at h
  obtain ⟨ps, ⟨g0, t0, cs0, f0, p0, q0, hg0, ht0, hv0, hd0, ⟨g2, t2, cs2, f2, p2, q2, hg2, ht2, hv2, hd2, ⟨g1, t1, cs1, f1, p1, q1, hg1, ht1, hv1, hd1, _, _⟩, _⟩, _⟩, _, _⟩ := h
  refine ⟨fun i j hi hj => ?_, ?_, ?_⟩
  · obtain rfl := Option.some.inj (gLasts.symm.trans hg0)
    obtain rfl := Option.some.inj (tLasts.symm.trans ht0)
    have h1 := lasts_cells hd0 i j hi hj
    rw [World.var?_cell hg0 hv0]
    simpa using h1
  · obtain rfl := Option.some.inj (gKinds.symm.trans hg2)
    obtain rfl := Option.some.inj (tKinds.symm.trans ht2)
    rcases open_map Tryz.underlying303 hd2 with ⟨_, hx⟩ | ⟨bm, es, clock, m, rfl, hcs, hb, _, F, hx⟩
    · simp [Rows.laid_porter_icmp_kinds] at hx
    simp only [Prod.mk.injEq] at hx
    have hcell : W.cell? ⟨2, 0, none⟩ = some (.map (some bm)) := by
      have := World.var?_cell hg2 hv2 0
      rw [Array.eq_one_of_toList hcs] at this
      simpa using this
    have hown := World.ownsMap_of_fit (R := plainElem Tryz.prog 3) hb F (fun x _ z hz => elemAt_plainElem_int Tryz.underlying3 hz)
    rw [← hx.1] at hown
    exact ⟨bm, _, hcell, hown⟩
  · obtain rfl := Option.some.inj (gWords.symm.trans hg1)
    obtain rfl := Option.some.inj (tWords.symm.trans ht1)
    rcases open_map Tryz.underlying299 hd1 with ⟨_, hx⟩ | ⟨bm, es, clock, m, rfl, hcs, hb, _, F, hx⟩
    · simp [Rows.laid_porter_tuples_words] at hx
    simp only [Prod.mk.injEq] at hx
    have hcell : W.cell? ⟨1, 0, none⟩ = some (.map (some bm)) := by
      have := World.var?_cell hg1 hv1 0
      rw [Array.eq_one_of_toList hcs] at this
      simpa using this
    have hown := World.ownsMap_of_fit (R := plainElem Tryz.prog 9) hb F (fun x _ z hz => elemAt_plainElem_string Tryz.underlying9 hz)
    rw [← hx.1] at hown
    exact ⟨bm, _, hcell, hown⟩
theorem g_met (os : Os) (args : Array Value) : laidMetH Tryz.prog laidG ((World.doorLaid Tryz.prog 400 os).forCall (fun _ _ => 0) ⟨#[], args, []⟩).memory :=
  laidMetH_of_parts3 (fuel := 8) (laidMet_of_run' 8 (by kernel_rfl) (by kernel_rfl)) (by kernel_rfl) (by kernel_rfl)
end Go.Proofs.YtilfcikhipadpaaGreatDoor
end
