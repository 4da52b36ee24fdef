/- rules: what stands in a table: the plain laws of RulesApart. -/
import Derived.Test.YtbboajhdijabbaaRlaw7
import Derived.Test.YtbboajhdijabbaaClash
set_option linter.unusedVariables false
set_option linter.unusedSimpArgs false
namespace Go.Proofs.Ytbboajhdijabbaa
open Go.RowKit Go.Lib
attribute [local go_sem] Oper.semAt_some

theorem dClash_comm {x y : Rule} (o : Int) : dClash o x y = dClash o y x := by
  unfold dClash dc33 dc3
  by_cases h1 : x.k = 3 <;> by_cases h2 : y.k = 3 <;> simp only [h1, h2, if_true, if_false]
  rw [Bool.eq_iff_iff]
  simp only [Bool.and_eq_true, Bool.or_eq_true, decide_eq_true_eq]
  omega
/-- no two rules of a table clash -/
theorem Good.no {l : List Rule} (h : Good l) {i j : Nat} (hi : i < l.length) (hj : j < l.length) (hij : i ≠ j) : dClash 151587081 l[i] l[j] = false := by
  have key : ∀ a b (ha : a < l.length) (hb : b < l.length), a < b → dClash 151587081 l[a] l[b] = false := fun a b ha hb hab => by
    have hp := List.pairwise_iff_getElem.1 h.apart a b ha hb hab
    rcases hp with hp | hp
    · rw [clash_doc (ip := 167772160) (b := 8) _ _ _ (h.may _ (List.getElem_mem _)) (h.may _ (List.getElem_mem _))]; exact hp
    · rw [dClash_comm, clash_doc (ip := 167772160) (b := 8) _ _ _ (h.may _ (List.getElem_mem _)) (h.may _ (List.getElem_mem _))]; exact hp
  rcases Nat.lt_or_gt_of_ne hij with e | e
  · exact key i j hi hj e
  · rw [dClash_comm]; exact key j i hj hi e
theorem Good.static_one {l : List Rule} (h : Good l) {r : Rule} (hr : r ∈ l) (hk : r.k = 3) : firstR 151587081 (stP r.p r.e r.f) l = r ∧ l.any (stP r.p r.e r.f) = true := by
  have hp : stP r.p r.e r.f r = true := by unfold stP; simp [hk]
  have ha : l.any (stP r.p r.e r.f) = true := List.any_eq_true.2 ⟨r, hr, hp⟩
  refine ⟨?_, ha⟩
  rw [firstR_raw _ _ _ (fun x hx => by unfold stP at hx; simp at hx; exact hx.1.1.1)]
  unfold rawR
  cases hf : l.find? (stP r.p r.e r.f) with
  | none => rw [List.find?_eq_none] at hf; exact absurd hp (hf r hr)
  | some x =>
    have hx := List.find?_some hf
    have hm := List.mem_of_find?_eq_some hf
    obtain ⟨i, hi, rfl⟩ := List.getElem_of_mem hr
    obtain ⟨j, hj, rfl⟩ := List.getElem_of_mem hm
    by_cases e : i = j
    · subst e; rfl
    · have := h.no hi hj e
      unfold stP at hx
      simp only [Bool.and_eq_true, decide_eq_true_eq] at hx
      unfold dClash dc33 at this
      rw [if_pos hk, if_pos hx.1.1.1] at this
      simp [hx] at this
theorem Good.own_one {l : List Rule} (h : Good l) {r : Rule} (hr : r ∈ l) (hk : r.k = 3) : firstR 151587081 (owP r.p r.ia r.ip) l = r ∧ l.any (owP r.p r.ia r.ip) = true := by
  have hp : owP r.p r.ia r.ip r = true := by unfold owP; simp [hk]
  have ha : l.any (owP r.p r.ia r.ip) = true := List.any_eq_true.2 ⟨r, hr, hp⟩
  refine ⟨?_, ha⟩
  rw [firstR_raw _ _ _ (fun x hx => by unfold owP at hx; simp at hx; exact hx.1.1)]
  unfold rawR
  cases hf : l.find? (owP r.p r.ia r.ip) with
  | none => rw [List.find?_eq_none] at hf; exact absurd hp (hf r hr)
  | some x =>
    have hx := List.find?_some hf
    have hm := List.mem_of_find?_eq_some hf
    obtain ⟨i, hi, rfl⟩ := List.getElem_of_mem hr
    obtain ⟨j, hj, rfl⟩ := List.getElem_of_mem hm
    by_cases e : i = j
    · subst e; rfl
    · have := h.no hi hj e
      unfold owP at hx
      simp only [Bool.and_eq_true, decide_eq_true_eq] at hx
      unfold dClash dc33 at this
      rw [if_pos hk, if_pos hx.1.1] at this
      simp [hx] at this
/-- no flow goes out by a static rule's port -/
theorem Good.out_no {l : List Rule} (h : Good l) {r s : Rule} (hr : r ∈ l) (hs : s ∈ l) (hk : r.k = 3) (h1 : s.k ≠ 3) (h2 : s.p = 0 ∨ s.p = r.p) (h3 : (wholeR 151587081 s).e = r.e) (h4 : s.f ≤ r.f) : ¬ r.f ≤ s.t := by
  intro h5
  obtain ⟨i, hi, rfl⟩ := List.getElem_of_mem hr
  obtain ⟨j, hj, rfl⟩ := List.getElem_of_mem hs
  have hij : i ≠ j := by rintro rfl; exact h1 hk
  have := h.no hi hj hij
  unfold dClash dc3 at this
  rw [if_pos hk, if_neg h1] at this
  simp [h3, h4, h5] at this
  omega
theorem Good.outer_of {l : List Rule} (h : Good l) {r : Rule} (hr : r ∈ l) : hasP 167772160 8 (wholeR 151587081 r).e = false ∧ outR 151587081 l (wholeR 151587081 r).e = true ∧ chkR 167772160 8 r = 0 ∧ (0 ≤ (wholeR 151587081 r).e ∧ (wholeR 151587081 r).e ≤ 4294967295) := by
  have hm := h.may r hr
  have ho := h.ok r hr
  refine ⟨?_, ?_, by unfold chkR; rw [if_pos hm], ?_⟩
  · unfold wholeR
    by_cases h2 : r.k = 2
    · rw [if_pos h2]; exact (show hasP 167772160 8 151587081 = false by decide)
    · rw [if_neg h2]
      unfold mayR at hm
      by_cases h1 : r.k = 1
      · rw [if_pos h1] at hm; simp at hm; exact hm.2
      · rw [if_neg h1, if_neg h2] at hm
        by_cases h3 : r.k = 3
        · rw [if_pos h3] at hm; unfold stOk at hm; simp at hm; exact hm.1.1.1.1.2
        · rw [if_neg h3] at hm; cases hm
  · unfold outR
    rw [Bool.or_eq_true]
    exact Or.inr (List.any_eq_true.2 ⟨r, hr, by unfold ouP; simp⟩)
  · unfold wholeR
    split
    · exact (show (0 : Int) ≤ 151587081 ∧ (151587081 : Int) ≤ 4294967295 by decide)
    · exact ho.2.2.2.1

set_option maxHeartbeats 4000000 in
set_option maxRecDepth 100000 in
theorem l_outer (w : World) (r : Rule) : Calls Try.prog 25 #[.agg r.cells] w (Ret (.int .u32 (wholeR 151587081 r).e) w) := by
  obtain ⟨q, hq⟩ : ∃ q, q = (wholeR 151587081 r).e := ⟨_, rfl⟩
  rw [← hq]
  unfold wholeR at hq
  unfold Rule.cells
  have HQ := hide hq
  clear hq
  go_enter Try.func25, Try.ntmps25
  have d := Cells.new w #[.int .i64 r.k, .int .u8 r.p, .int .u32 r.sa, .int .i64 r.sb, .int .u32 r.da, .int .i64 r.db, .int .u32 r.e, .int .u16 r.f, .int .u16 r.t, .int .u32 r.ia, .int .u16 r.ip] 30
  have l0 := fresh_below w (.cells #[.int .i64 r.k, .int .u8 r.p, .int .u32 r.sa, .int .i64 r.sb, .int .u32 r.da, .int .i64 r.db, .int .u32 r.e, .int .u16 r.f, .int .u16 r.t, .int .u32 r.ia, .int .u16 r.ip] 30)
  have L0 := hide l0; have D0 := hide d
  clear l0 d
  go_upto_region 1 with fail
  have l0 := L0.out; have d := D0.out
  clear L0 D0
  generalize (w.alloc (.cells #[.int .i64 r.k, .int .u8 r.p, .int .u32 r.sa, .int .i64 r.sb, .int .u32 r.da, .int .i64 r.db, .int .u32 r.e, .int .u16 r.f, .int .u16 r.t, .int .u32 r.ia, .int .u16 r.ip] 30)) = w1 at *
  have xd_0 : w1.cell? ⟨w.heap.size, 0, none⟩ = some (.int .i64 r.k) := d.at_ 0
  have xd_1 : w1.cell? ⟨w.heap.size, 1, none⟩ = some (.int .u8 r.p) := d.at_ 1
  have xd_2 : w1.cell? ⟨w.heap.size, 2, none⟩ = some (.int .u32 r.sa) := d.at_ 2
  have xd_3 : w1.cell? ⟨w.heap.size, 3, none⟩ = some (.int .i64 r.sb) := d.at_ 3
  have xd_4 : w1.cell? ⟨w.heap.size, 4, none⟩ = some (.int .u32 r.da) := d.at_ 4
  have xd_5 : w1.cell? ⟨w.heap.size, 5, none⟩ = some (.int .i64 r.db) := d.at_ 5
  have xd_6 : w1.cell? ⟨w.heap.size, 6, none⟩ = some (.int .u32 r.e) := d.at_ 6
  have xd_7 : w1.cell? ⟨w.heap.size, 7, none⟩ = some (.int .u16 r.f) := d.at_ 7
  have xd_8 : w1.cell? ⟨w.heap.size, 8, none⟩ = some (.int .u16 r.t) := d.at_ 8
  have xd_9 : w1.cell? ⟨w.heap.size, 9, none⟩ = some (.int .u32 r.ia) := d.at_ 9
  have xd_10 : w1.cell? ⟨w.heap.size, 10, none⟩ = some (.int .u16 r.ip) := d.at_ 10
  have L0 := hide l0
  clear l0 d
  go_wp2_with fail
  all_goals
    go_ret
    refine ⟨ret_int ?_, L0.out⟩
    rw [HQ.out]
    clear HQ
    first | (simp [*]; done) | (simp_all; done)
end Go.Proofs.Ytbboajhdijabbaa
