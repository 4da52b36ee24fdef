/- Several texts of this claim, one behind the other. -/
import Derived.Test.YtpidgmamollmgaaDoorM25
import Derived.Test.YtpidgmamollmgaaDoorRows
import Derived.ProofKit
import Derived.LaidMore
import Derived.OpenShut
import Derived.Stop.Joined
import Derived.MakeChecks

section
/- What the cards of rewrite list, out of what the row lists; the heap that the program's own door leaves meets it. -/
set_option linter.unusedVariables false
namespace Go.Proofs.YtpidgmamollmgaaDoor
open Go.ChangeShapes Go.WideShapes Go.ChangeAt Go.WideMaps Go.WideElems Go.RowKit Go.Maps

def laidTabs : List (String × DataW Unit) := [("math/bits.deBruijn32tab", Rows.laid_math_bits_deBruijn32tab), ("math/bits.deBruijn64tab", Rows.laid_math_bits_deBruijn64tab), ("internal/strconv.uint64pow10", Rows.laid_internal_strconv_uint64pow10), ("porter/icmp.kinds", Rows.laid_porter_icmp_kinds), ("porter/tuples.words", Rows.laid_porter_tuples_words)]
theorem gKinds : Tryd.prog.globalNamed "porter/icmp.kinds" = some 1 := by kernel_rfl
theorem tKinds : (Tryd.prog.globals[1]?).map (·.type) = some 140 := by kernel_rfl
theorem gWords : Tryd.prog.globalNamed "porter/tuples.words" = some 0 := by kernel_rfl
theorem tWords : (Tryd.prog.globals[0]?).map (·.type) = some 63 := by kernel_rfl
theorem gPow : Tryd.prog.globalNamed "internal/strconv.uint64pow10" = some 3 := by kernel_rfl
theorem tPow : (Tryd.prog.globals[3]?).map (·.type) = some 155 := by kernel_rfl
theorem pow_is : (Rows.laid_internal_strconv_uint64pow10 : DataW Unit) = Lib.tabData .u64 Lib.pow10Tab := by kernel_rfl
set_option maxRecDepth 100000 in
theorem tabs_of_laid {W : World} (h : laidMetH Tryd.prog laidTabs W) : Tabs W := by
  rw [MakeChecks.laidMetH_plain _ _ _ (by kernel_rfl)] at h
  obtain ⟨ps, ⟨_, _, _, _, _, _, _, _, _, _, ⟨_, _, _, _, _, _, _, _, _, _, ⟨g2, t2, cs2, f2, p2, q2, hg2, ht2, hv2, hd2, ⟨g0, t0, cs0, f0, p0, q0, hg0, ht0, hv0, hd0, ⟨g1, t1, cs1, f1, p1, q1, hg1, ht1, hv1, hd1, _, _⟩, _⟩, _⟩, _⟩, _⟩, _, _⟩ := h
  refine ⟨?_, ?_, ?_⟩
  · obtain rfl := Option.some.inj (gKinds.symm.trans hg0)
    obtain rfl := Option.some.inj (tKinds.symm.trans ht0)
    rcases open_map Tryd.underlying140 hd0 with ⟨_, hx⟩ | ⟨bm, es, clock, m, rfl, hcs, hb, _, F, hx⟩
    · simp [Rows.laid_porter_icmp_kinds] at hx
    simp only [Prod.mk.injEq] at hx
    have hcell : W.cell? ⟨1, 0, none⟩ = some (.map (some bm)) := by
      have := World.var?_cell hg0 hv0 0
      rw [Array.eq_one_of_toList hcs] at this
      simpa using this
    have hown := World.ownsMap_of_fit (R := plainElem Tryd.prog 3) hb F (fun x _ z hz => elemAt_plainElem_int Tryd.underlying3 hz)
    rw [← hx.1] at hown
    exact ⟨bm, _, hcell, hown⟩
  · obtain rfl := Option.some.inj (gWords.symm.trans hg1)
    obtain rfl := Option.some.inj (tWords.symm.trans ht1)
    rcases open_map Tryd.underlying63 hd1 with ⟨_, hx⟩ | ⟨bm, es, clock, m, rfl, hcs, hb, _, F, hx⟩
    · simp [Rows.laid_porter_tuples_words] at hx
    simp only [Prod.mk.injEq] at hx
    have hcell : W.cell? ⟨0, 0, none⟩ = some (.map (some bm)) := by
      have := World.var?_cell hg1 hv1 0
      rw [Array.eq_one_of_toList hcs] at this
      simpa using this
    have hown := World.ownsMap_of_fit (R := plainElem Tryd.prog 9) hb F (fun x _ z hz => elemAt_plainElem_string Tryd.underlying9 hz)
    rw [← hx.1] at hown
    exact ⟨bm, _, hcell, hown⟩
  · obtain rfl := Option.some.inj (gPow.symm.trans hg2)
    obtain rfl := Option.some.inj (tPow.symm.trans ht2)
    rw [pow_is] at hd2
    show W.var? Tryd.prog _ = _
    rw [hv2, ← Lib.cells_of_tab (e := 148) Tryd.underlying155 Tryd.underlying148 (by kernel_rfl) (by kernel_rfl) hd2]
theorem tabs_met (os : Os) (args : Array Value) : laidMetH Tryd.prog laidTabs ((World.doorLaid Tryd.prog 400 os).forCall (fun _ _ => 0) ⟨#[], args, []⟩).memory :=
  laidMetH_of_parts3 (fuel := 8) (laidMet_of_run' 8 (by kernel_rfl) (by kernel_rfl)) (by kernel_rfl) (by kernel_rfl)
end Go.Proofs.YtpidgmamollmgaaDoor
end
