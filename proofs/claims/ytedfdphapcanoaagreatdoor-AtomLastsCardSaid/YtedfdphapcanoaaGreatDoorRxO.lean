/- A run reckoned by the kernel: comparisons of structs and pointers; slices of the run's own. No program. -/
import Derived.Test.YtedfdphapcanoaaGreatDoorRx3
import Derived.Laws.StructEq
import Derived.Great.BuildSlice
set_option linter.unusedVariables false
set_option linter.unusedSimpArgs false
namespace Go.Proofs.YtedfdphapcanoaaGreatDoor
open Go.RowKit Go.Lib
namespace Rx
variable {P : Program} {A : Amb}

/-! ### comparisons -/
theorem agg_isAgg {t : TypeId} (w : World) {b : Bool} (h : pureRun P (isAgg t) = some b) : (isAgg t).run P w = .ok b w := pureRun_run w _ _ h
theorem part_run {ρ : Nm} {t : TypeId} {cs : List Value} {off : Nat} {v : Value} (w : World) (h : partA P t cs off = some v) : (part t (cs.map (ren0 ρ)).toArray off).run P w = .ok (ren ρ v) w ∧ notTuple v = true := by
  unfold partA at h
  unfold part
  split at h
  · rename_i ha
    split at h
    · rename_i n hn
      simp only [Option.some.injEq] at h
      subst h
      rw [run_bind_ok (pureRun_run w _ _ ha)]
      simp only [if_true]
      rw [run_bind_ok (pureRun_run w _ _ hn)]
      refine ⟨?_, rfl⟩
      simp [ren, ren1, cut, Sem.run, pure, List.map_take, List.map_drop]
    · cases h
  · rename_i ha
    split at h
    · rename_i u hu
      cases hs : scal u <;> simp only [hs, cond] at h
      · cases h
      · simp only [Option.some.injEq] at h
        subst h
        rw [run_bind_ok (pureRun_run w _ _ ha)]
        have : ((cs.map (ren0 ρ)).toArray)[off]? = some (ren ρ u) := by rw [ren_scal hs]; simp [hu]
        simp only [Bool.false_eq_true, if_false, this]
        exact ⟨rfl, by cases u <;> simp_all [scal, notTuple]⟩
    · cases h
  · cases h
theorem eqS_run {ρ : Nm} {t : TypeId} {d : TypeDesc} (hu : P.underlying t = some d) {x y : Value} {b : Bool} (h : eqS d x y = some b) (n : Nat) (w : World) : (Op.equalIn (n + 1) t (ren ρ x) (ren ρ y)).run P w = .ok b w := by
  unfold eqS at h
  split at h
  · simp only [Option.some.injEq] at h; subst h
    simp [Op.equalIn, run_underlying hu, ren, ren1, ren0, renS]
  · rename_i k a k' b'
    cases hk : decide (k = k') <;> simp only [hk, cond] at h
    · cases h
    · simp only [Option.some.injEq] at h; subst h
      have : k = k' := of_decide_eq_true hk
      subst this
      simp [Op.equalIn, run_underlying hu, ren, ren1, ren0, renS]
  · simp only [Option.some.injEq] at h; subst h
    simp [Op.equalIn, run_underlying hu, ren, ren1, ren0, renS, beq_toListBytes]
  · rename_i e b'
    simp only [Option.some.injEq] at h; subst h
    cases b' <;> simp [Op.equalIn, run_underlying hu, ren, ren1, ren0, renS]
  · simp only [Option.some.injEq] at h; subst h
    simp [Op.equalIn, run_underlying hu, ren, ren1, ren0, renS]
  · rename_i e n' c b' n2 c2
    simp only [Option.some.injEq] at h; subst h
    cases b' <;> simp [Op.equalIn, run_underlying hu, ren, ren1, ren0, renS]
  · simp only [Option.some.injEq] at h; subst h
    simp [Op.equalIn, run_underlying hu, ren, ren1, ren0, renS]
  · simp only [Option.some.injEq] at h; subst h
    simp [Op.equalIn, run_underlying hu, ren, ren1, ren0, renS]
  · simp only [Option.some.injEq] at h; subst h
    simp [Op.equalIn, run_underlying hu, ren, ren1, ren0, renS]
  · simp only [Option.some.injEq] at h; subst h
    simp [Op.equalIn, run_underlying hu, ren, ren1, ren0, renS]
  · cases h
theorem eqF_run {ρ : Nm} {eqr : TypeId → Value → Value → Option Bool} {d : Nat} (ih : ∀ t x y b, eqr t x y = some b → ∀ w : World, (Op.equalIn d t (ren ρ x) (ren ρ y)).run P w = .ok b w) (xs ys : List Value) (w : World) : ∀ (fs : List Field) (b : Bool), eqF P eqr xs ys fs = some b →
    (Op.eqFields d (xs.map (ren0 ρ)).toArray (ys.map (ren0 ρ)).toArray fs).run P w = .ok b w
  | [], b, h => by
    simp only [eqF, Option.some.injEq] at h
    subst h; rfl
  | f :: fs, b, h => by
    simp only [eqF] at h
    cases hn : (f.name == "_") <;> simp only [hn, cond] at h
    · split at h
      · rename_i a ha
        split at h
        · rename_i c hc
          split at h
          · rename_i r hr
            split at h
            · rename_i q hq
              simp only [Option.some.injEq] at h
              subst h
              unfold Op.eqFields
              rw [if_pos (by simpa using hn)]
              rw [run_bind_ok (part_run w ha).1, run_bind_ok (part_run w hc).1, run_bind_ok (ih _ _ _ _ hr w)]
              cases r
              · rfl
              · simp only [Bool.not_true, Bool.false_eq_true, if_false, Bool.true_and]
                exact eqF_run ih xs ys w fs q hq
            · cases h
          · cases h
        · cases h
      · cases h
    · cases h
theorem eqA_run {ρ : Nm} : ∀ (n : Nat) (t : TypeId) (x y : Value) (b : Bool), eqA P n t x y = some b → ∀ (d : Nat), n ≤ d → ∀ w : World, (Op.equalIn d t (ren ρ x) (ren ρ y)).run P w = .ok b w
  | 0, _, _, _, _, h => by cases h
  | n + 1, t, x, y, b, h => by
    intro d hd w
    obtain ⟨d, rfl⟩ : ∃ e, d = e + 1 := ⟨d - 1, by omega⟩
    simp only [eqA] at h
    split at h
    · rename_i fs hu
      split at h
      · rename_i xs
        split at h
        · rename_i ys
          cases hp : P.stoodInHeld t <;> simp only [hp, cond] at h
          · have hf : P.fieldsOf t = fs := by unfold Program.fieldsOf; rw [hu]
            simp only [ren, ren1]
            rw [run_equalIn_struct w d t _ _ (by rw [hf]; exact hu) hp, hf]
            exact eqF_run (fun t x y b h w => eqA_run n t x y b h d (by omega) w) _ _ w _ b h
          · cases h
        · cases h
      · cases h
    · rename_i dd hne hu
      exact eqS_run hu h d w
    · cases h
theorem ren_slice (ρ : Nm) (a : Option Addr) (n c : Nat) : ∃ a' c', ren ρ (.slice a n c) = .slice a' n c' := by
  cases a <;> exact ⟨_, _, rfl⟩
theorem ren_pointer (ρ : Nm) (a : Option Addr) : ∃ a', ren ρ (.pointer a) = .pointer a' := by
  cases a <;> exact ⟨_, rfl⟩
theorem cmp_S {o : Oper} {op : BinOp} {T yT : TypeId} {x y : Operand} (ho : o.op = .binOp op T x y yT) {ev : Operand → Option Value} {m : Mem} {nx : Nat} {ts : Ts} {a b v : Value} (hx : ev x = some a) (hy : ev y = some b) (h : cmpA P op T a b = some v) : OpS P A o ev m nx ts ts v [] nx := by
  unfold cmpA at h
  split at h
  · rename_i e he
    cases hg : (notNum a && guardA P T a) <;> simp only [hg, cond] at h
    · cases h
    · split at h
      · rename_i r hr
        simp only [Option.some.injEq] at h
        subst h
        simp only [Bool.and_eq_true] at hg
        refine OpS.val fun D ρ ac w he' hm => ⟨?_, Fit.real rfl⟩
        have h1 := eqA_run (ρ := ρ) 10 T a b r hr Op.maxDepth (by decide) w
        have h2 : (eqGuard op T x y (ren ρ a) (ren ρ b)).run P w = .ok () w := by
          have hgb := hg.2
          unfold guardA at hgb
          split at hgb
          · rename_i cs
            simp only [ren, ren1]
            cases b <;> first
              | (simp only [ren, ren1]; exact run_eqGuard_agg w op T x y _ _ (by simpa using hgb))
              | (simp only [ren, ren1, ren0, renS]; cases op <;> rfl)
              | skip
            case pointer q => cases q <;> (simp only [ren, ren1, ren0, renS]; cases op <;> rfl)
            case slice q _ _ => cases q <;> (simp only [ren, ren1, ren0, renS]; cases op <;> rfl)
          · cases hgb
          · rename_i hna hnn
            unfold eqGuard
            cases op <;> try rfl
            all_goals
              cases a
              case agg => exact absurd rfl (hna _)
              case nilIface => exact absurd rfl hnn
              case pointer q => obtain ⟨q', e⟩ := ren_pointer ρ q; rw [e]; rfl
              case slice q n c => obtain ⟨q', c', e⟩ := ren_slice ρ q n c; rw [e]; rfl
              all_goals rfl
        have h3 : (binOp op T (ren ρ a) (ren ρ b)).run P w = .ok (.bool (cond e r (!r))) w := by
          have hna := hg.1
          have key : ∀ x' y' : Value, notNum x' = true → binOp .eql T x' y' = (do pure (.bool (← Op.equal T x' y'))) ∧ binOp .neq T x' y' = (do pure (.bool (!(← Op.equal T x' y')))) := fun x' y' hx' => by
            cases x' <;> first
              | (simp [notNum] at hx'; done)
              | (cases y' <;> exact ⟨rfl, rfl⟩)
          have hren : notNum (ren ρ a) = true := by
            cases a
            case pointer q => obtain ⟨q', e⟩ := ren_pointer ρ q; rw [e]; rfl
            case slice q n c => obtain ⟨q', c', e⟩ := ren_slice ρ q n c; rw [e]; rfl
            all_goals exact hna
          obtain ⟨k1, k2⟩ := key _ (ren ρ b) hren
          have h1' : (Op.equal T (ren ρ a) (ren ρ b)).run P w = .ok r w := h1
          unfold isEq at he
          split at he
          · simp only [Option.some.injEq] at he; subst he
            rw [k1, run_bind_ok h1']; rfl
          · simp only [Option.some.injEq] at he; subst he
            rw [k2, run_bind_ok h1']; rfl
          · cases he
        simp only [execOp, ho]
        rw [(he' x _ hx).1, (he' y _ hy).1]
        show (((eqGuard op T x y (ren ρ a) (ren ρ b)) >>= fun _ => binOp op T (ren ρ a) (ren ρ b)) >>= fun r => pure (Next.value r)).run P w = _
        have h4 : ((eqGuard op T x y (ren ρ a) (ren ρ b)) >>= fun _ => binOp op T (ren ρ a) (ren ρ b)).run P w = .ok (.bool (cond e r (!r))) w := by rw [run_bind_ok h2]; exact h3
        rw [run_bind_ok h4]
        rfl
      · cases h
  · cases h
end Rx
end Go.Proofs.YtedfdphapcanoaaGreatDoor
