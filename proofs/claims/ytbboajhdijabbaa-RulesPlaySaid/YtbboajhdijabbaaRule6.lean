/- rules: slices.Insert at rules. -/
import Derived.Test.YtbboajhdijabbaaRule5
set_option linter.unusedVariables false
set_option linter.unusedSimpArgs false
namespace Go.Proofs.Ytbboajhdijabbaa
open Go.RowKit Go.Lib
attribute [local go_sem] Oper.semAt_some

theorem tSl : Try.prog.underlying 51 = some (.slice 30) := by kernel_rfl
theorem tRu : (Try.prog.info? 30).map (fun i => (i.zero, i.size, i.bytes)) = some (some (.agg #[.int .i64 0, .int .u8 0, .int .u32 0, .int .i64 0, .int .u32 0, .int .i64 0, .int .u32 0, .int .u16 0, .int .u16 0, .int .u32 0, .int .u16 0]), 11, 64) := by kernel_rfl
def zRu : Value := .agg #[.int .i64 0, .int .u8 0, .int .u32 0, .int .i64 0, .int .u32 0, .int .i64 0, .int .u32 0, .int .u16 0, .int .u16 0, .int .u32 0, .int .u16 0]
theorem zRu_cells : zRu.cells.size = 11 := by rfl

set_option maxHeartbeats 4000000 in
set_option maxRecDepth 100000 in
/-- at the end -/
theorem Insert_end (v : Value) (l : List Rule) (r : Rule) (vb : Nat) (w : World) (hv : RR w v l) (hn : l.length ≤ 1000) (hr : ∀ i u, r.cells.toList[i]? = some u → w.cell? ⟨vb, i, none⟩ = some u) :
    Calls Try.prog 46 #[v, .int .i64 l.length, .slice (some ⟨vb, 0, none⟩) 1 1] w fun e w' => ∃ v', e = .returned v' ∧ RR w' v' (l ++ [r]) ∧ w.grownBy w' v.ownBlock ∧ (v'.ownBlock = v.ownBlock ∨ v'.ownBlock = some w.heap.size) := by
  obtain ⟨i0, hi0, hz0, hzs, hzb⟩ := info_parts tRu
  have hw1 : IntKind.i64.wrap ((l.length : Int) + 1) = (l.length : Int) + 1 := by rw [IntKind.wrap_i64]; omega
  obtain ⟨n, hnn⟩ : ∃ n, n = l.length := ⟨_, rfl⟩
  unfold RR at hv
  rw [← hnn] at hv hw1 hn ⊢
  have key : ∀ v' w', w'.ownsRow 0 30 11 v' (n + 1) (cellsOf l ++ r.cells.toList) → w.grownBy w' v.ownBlock → (v'.ownBlock = v.ownBlock ∨ v'.ownBlock = some w.heap.size) → RR w' v' (l ++ [r]) := by
    intro v' w' h _ _
    unfold RR
    rw [cellsOf_append, List.length_append, ← hnn]
    have : cellsOf [r] = r.cells.toList := by simp [cellsOf]
    rw [this]
    exact h
  have H : Aside (∀ j u, r.cells.toList[j]? = some u → w.cell? ⟨vb, j, none⟩ = some u) := hr
  have KEY := hide key
  clear key hr
  obtain ⟨xs, hxs⟩ : ∃ xs, xs = cellsOf l := ⟨_, rfl⟩
  rw [← hxs] at hv KEY
  clear hnn hxs
  rcases hv.2 with ⟨rfl, rfl⟩ | ⟨g, c, cur, rfl, _, _, hnc, hcm, _⟩
  · have HV := hide hv
    clear hv
    go_enter Try.func46, Try.ntmps46
    go_wp2_with (at_builtin; refine wpList_append_own_at _ rfl _ _ 51 rfl 0 30 i0 zRu 11 64 tSl hi0 hz0 hzs hzb zRu_cells (by decide) _ _ xs rfl HV.out ⟨vb, 0, none⟩ 1 1 r.cells.toList rfl rfl (fun j u hj => by rw [Addr.add_lit, Nat.zero_add]; exact H.out j u hj) (oneCell1 r) (by unfold maxLen; omega) (by omega) (Nat.zero_le _) ?_)
    all_goals
      intro v' w1 hown hgrow hnil hob
      go_wp2_with fail
      go_ret
      exact ⟨v', rfl, KEY.out v' w1 hown hgrow hob, hgrow, hob⟩
  · have HV := hide hv
    clear hv
    unfold maxLen at hcm
    go_enter Try.func46, Try.ntmps46
    go_wp2_with (at_builtin; refine wpList_append_own_at _ rfl _ _ 51 rfl 0 30 i0 zRu 11 64 tSl hi0 hz0 hzs hzb zRu_cells (by decide) _ _ xs rfl HV.out ⟨vb, 0, none⟩ 1 1 r.cells.toList rfl rfl (fun j u hj => by rw [Addr.add_lit, Nat.zero_add]; exact H.out j u hj) (oneCell1 r) (by unfold maxLen; omega) (by omega) (Nat.zero_le _) ?_)
    all_goals
      intro v' w1 hown hgrow hnil hob
      go_wp2_with fail
      go_ret
      exact ⟨v', rfl, KEY.out v' w1 hown hgrow hob, hgrow, hob⟩

end Go.Proofs.Ytbboajhdijabbaa
