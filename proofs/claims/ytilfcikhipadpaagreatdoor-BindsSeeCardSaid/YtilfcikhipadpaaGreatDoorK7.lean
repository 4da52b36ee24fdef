/- Several texts of this claim, one behind the other. -/
import Derived.Test.YtilfcikhipadpaaGreatDoorK6
import Derived.KernelRfl
import Derived.Test.YtilfcikhipadpaaGreatDoorProg
import Derived.Lib.Strings
import Derived.Lib.Slices
import Derived.Lib.Walk
import Derived.Lib.Builder
import Derived.Lib.AppendStr
import Derived.Lib.UnsafeStr
import Derived.Lib.MakeNoZero
import Derived.WalkKit
import Derived.Laws.Externs
import Derived.Laws.IdiomCopy
import Derived.Laws.BitsLemmas

section
/- A run reckoned by the kernel: code, calls, and what it is good for. No program. -/
set_option linter.unusedVariables false
set_option linter.unusedSimpArgs false
namespace Go.Proofs.YtilfcikhipadpaaGreatDoor
open Go.RowKit Go.Lib
namespace Rx
variable {P : Program} {A : Amb}

def exitOf : X → Exit
  | .nrm => .normal
  | .ex id => .exit id
  | .ret => .ret
/-- the code c, run from st, is left by x at st' -/
def CodeS (P : Program) (A : Amb) (c : Code) (st : St) (x : X) (st' : St) : Prop :=
  Ext st st' ∧ Sound P A st.ts st'.ts (∀ (D : Nat → Prop) (ρ : Nm) (a : Act) (w : World) (Q : Exit → Act → World → Prop), StOK P A D ρ st a w → (∀ i, D i → ¬ (st.nx ≤ i ∧ i < st'.nx)) →
    (∀ ρ' a' w', StAft P A D ρ st w st' ρ' a' w' → Q (exitOf x) a' w') → c.wp P Q a w)
theorem CodeS.nil {c : Code} {st : St} {x : X} (h : ∀ (Q : Exit → Act → World → Prop) a w, Q (exitOf x) a w → c.wp P Q a w) : CodeS P A c st x st :=
  ⟨Ext.refl _, Sound.refl fun D ρ a w Q hs hD hk => h Q a w (hk ρ a w (StAft.refl hs))⟩
theorem CodeS.seq {a b : Code} {s0 s1 s2 : St} {x : X} (h : CodeS P A a s0 .nrm s1) (k : CodeS P A b s1 x s2) : CodeS P A (.seq a b) s0 x s2 := by
  obtain ⟨h1, h2⟩ := h
  obtain ⟨k1, k2⟩ := k
  refine ⟨h1.trans k1, h2.bind (k2.mono fun k' h' D ρ ac w Q hs hD hk => wp_seq (h' D ρ ac w _ hs (fun i hi => fun ⟨x, y⟩ => hD i hi ⟨x, by have := k1.nx; omega⟩) fun ρ1 a1 w1 h3 => ?_))⟩
  exact k' _ ρ1 a1 w1 Q h3.ok (ext_disj hD h1.nx) fun ρ2 a2 w2 h4 => hk ρ2 a2 w2 (StAft.trans h1 k1 hs.mem hD h3 h4)
theorem StOK.drew {D : Nat → Prop} {ρ : Nm} {st : St} {a : Act} {w : World} (h : StOK P A D ρ st a w) : StOK P A D ρ st a { w with drawn := w.drawn + 1 } :=
  ⟨h.fr, h.size, h.defers, h.mem.kept (Kept.drew (fun _ => False) w) (fun _ k => k.elim) (fun _ _ _ k => k)⟩
theorem StAft.undrew {D : Nat → Prop} {ρ ρ' : Nm} {st st' : St} {a' : Act} {w w' : World} (h : StAft P A D ρ st { w with drawn := w.drawn + 1 } st' ρ' a' w') : StAft P A D ρ st w st' ρ' a' w' :=
  ⟨h.same, h.ok, Kept.trans (Kept.drew (fun _ => False) w) h.kept (fun _ _ k => k.elim) (fun _ _ k => k), h.new⟩

/-- a loop, from the head of a round on -/
def wpL (P : Program) (c : Code) (Q : Exit → Act → World → Prop) (a : Act) (w : World) : Prop :=
  ∀ (b : Frame) (k : List Item) (cs : List Frame), ∃ e a' w', Q e a' w' ∧ Arrives P (lone (b.at a (.code c :: .inLoop c :: k)) cs w) b k cs e a' w'
theorem wpL_step {c : Code} {Q : Exit → Act → World → Prop} {a : Act} {w : World} (h : c.wp P (Exit.then (wpL P c Q) Q) a w) : wpL P c Q a w := by
  intro b k cs
  obtain ⟨e, a₁, w₁, hq, harr⟩ := h b (.inLoop c :: k) cs
  cases e with
  | normal =>
    obtain ⟨e₂, a₂, w₂, hq₂, harr₂⟩ := hq b k cs
    exact ⟨e₂, a₂, w₂, hq₂, .of_steps (Steps.trans harr (.one step_inLoop)) harr₂⟩
  | exit id => exact ⟨_, a₁, w₁, hq, .pass (x := .inLoop c) rfl (fun _ _ => .inl (by simp)) harr⟩
  | goto l => exact ⟨_, a₁, w₁, hq, .pass (x := .inLoop c) rfl (fun _ _ => .inl (by simp)) harr⟩
  | ret => exact ⟨_, a₁, w₁, hq, .pass (x := .inLoop c) rfl (fun _ _ => .inl (by simp)) harr⟩
  | panic ch => exact ⟨_, a₁, w₁, hq, .pass (x := .inLoop c) rfl (fun _ _ => .inl (by simp)) harr⟩
  | outgrown => exact ⟨_, a₁, w₁, hq, .pass (x := .inLoop c) rfl (fun _ _ => .inl (by simp)) harr⟩
theorem wp_of_wpL {c : Code} {Q : Exit → Act → World → Prop} {a : Act} {w : World} (h : wpL P c Q a w) : (Code.loop c).wp P Q a w := by
  intro b k cs
  obtain ⟨e, a', w', hq, harr⟩ := h b k cs
  exact ⟨e, a', w', hq, .of_steps (.one step_loop) harr⟩
theorem loopN_S {c : Code} {f : St → Option (X × St)} (hf : ∀ st x st', f st = some (x, st') → CodeS P A c st x st') : ∀ (n : Nat) (st : St) (x : X) (st' : St), loopN f n st = some (x, st') →
    Ext st st' ∧ Sound P A st.ts st'.ts (∀ (D : Nat → Prop) (ρ : Nm) (a : Act) (w : World) (Q : Exit → Act → World → Prop), StOK P A D ρ st a w → (∀ i, D i → ¬ (st.nx ≤ i ∧ i < st'.nx)) →
      (∀ ρ' a' w', StAft P A D ρ st w st' ρ' a' w' → Q (exitOf x) a' w') → wpL P c Q a w) ∧ x ≠ .nrm
  | 0, _, _, _, h => by cases h
  | n + 1, st, x, st', h => by
    simp only [loopN] at h
    split at h
    · rename_i st1 h1
      obtain ⟨e1, s1⟩ := hf _ _ _ h1
      obtain ⟨e2, s2, hx⟩ := loopN_S hf n st1 x st' h
      refine ⟨e1.trans e2, s1.bind (s2.mono fun k' h' D ρ a w Q hs hD hk => wpL_step (h' D ρ a w _ hs (fun i hi => fun ⟨x, y⟩ => hD i hi ⟨x, by have := e2.nx; omega⟩) fun ρ1 a1 w1 h3 => ?_)), hx⟩
      exact k' _ ρ1 a1 w1 Q h3.ok (ext_disj hD e1.nx) fun ρ2 a2 w2 h4 => hk ρ2 a2 w2 (StAft.trans e1 e2 hs.mem hD h3 h4)
    · rename_i hr
      have hx : x ≠ .nrm := fun e => by subst e; exact hr _ h
      obtain ⟨e1, s1⟩ := hf _ _ _ h
      refine ⟨e1, s1.mono fun h' D ρ a w Q hs hD hk => wpL_step (h' D ρ a w _ hs hD fun ρ1 a1 w1 h3 => ?_), hx⟩
      have := hk ρ1 a1 w1 h3
      cases x <;> first | exact absurd rfl hx | exact this
theorem exec_S (hm : P.follows .mixedOrders = true) {call : CallF} (hc : CallS P A call) (fuel : Nat) : ∀ (c : Code) (st : St) (x : X) (st' : St), exec P call fuel c st = some (x, st') → CodeS P A c st x st' := by
  intro c
  induction c with
  | skip =>
    intro st x st' h
    simp only [exec, Option.some.injEq, Prod.mk.injEq] at h
    obtain ⟨rfl, rfl⟩ := h
    exact CodeS.nil fun Q a w h => wp_skip h
  | label l =>
    intro st x st' h
    simp only [exec, Option.some.injEq, Prod.mk.injEq] at h
    obtain ⟨rfl, rfl⟩ := h
    exact CodeS.nil fun Q a w h => wp_label h
  | exit id =>
    intro st x st' h
    simp only [exec, Option.some.injEq, Prod.mk.injEq] at h
    obtain ⟨rfl, rfl⟩ := h
    exact CodeS.nil fun Q a w h => wp_exit h
  | ret =>
    intro st x st' h
    simp only [exec, Option.some.injEq, Prod.mk.injEq] at h
    obtain ⟨rfl, rfl⟩ := h
    exact CodeS.nil fun Q a w h => wp_ret h
  | region id ops draw =>
    intro st x st' h
    cases draw
    · simp only [exec, nrm] at h
      split at h
      · rename_i st1 h1
        simp only [Option.some.injEq, Prod.mk.injEq] at h
        obtain ⟨rfl, rfl⟩ := h
        obtain ⟨e, s⟩ := runSeq_S hc (Q := fun _ _ _ => True) ops.toList 0 st st1 (by simp) h1
        refine ⟨e, s.mono fun h' D ρ a w Q hs hD hk => wp_region ?_⟩
        have := h' D ρ a w (fun a w => Q .normal a w) hs hD hk Q (fun _ _ h => h)
        rwa [Array.length_toList, ← List.range_eq_range'] at this
      · cases h
    · simp only [exec, nrm] at h
      split at h
      · rename_i st1 h1
        simp only [Option.some.injEq, Prod.mk.injEq] at h
        obtain ⟨rfl, rfl⟩ := h
        obtain ⟨e, s⟩ := runDraw_S hc h1
        refine ⟨e, s.mono fun h' D ρ a w Q hs hD hk => wp_region_any hm ?_⟩
        exact h' D ρ a _ (fun a w => Q .normal a w) hs.drew hD (fun ρ' a' w' k => hk ρ' a' w' k.undrew) Q (fun _ _ h => h)
      · cases h
  | seq a b iha ihb =>
    intro st x st' h
    simp only [exec] at h
    split at h
    · rename_i st1 h1
      exact CodeS.seq (iha _ _ _ h1) (ihb _ _ _ h)
    · rename_i hr
      obtain ⟨e, s⟩ := iha _ _ _ h
      refine ⟨e, s.mono fun h' D ρ ac w Q hs hD hk => wp_seq (h' D ρ ac w _ hs hD fun ρ1 a1 w1 h3 => ?_)⟩
      have := hk ρ1 a1 w1 h3
      cases x <;> first | exact absurd h (hr _) | exact this
  | cond c a b iha ihb =>
    intro st x st' h
    simp only [exec] at h
    split at h
    · rename_i y hy
      split at h
      · rename_i ts hb
        obtain ⟨e, s⟩ := iha _ _ _ h
        refine ⟨⟨e.nx, e.n, e.mem⟩, (Sound.bool (P := P) (A := A) hb).bind (Sound.like (s.mono fun h' hyt D ρ ac w Q hs hD hk => ?_) ⟨rfl, rfl⟩ ⟨rfl, rfl⟩)⟩
        subst hyt
        have he := (Looks.all st.env).ev hs.fr c _ hy
        exact wp_cond_true he.1 (h' D ρ ac w Q ⟨hs.fr, hs.size, hs.defers, hs.mem⟩ hD fun ρ' a' w' k => hk ρ' a' w' ⟨k.same, k.ok, k.kept, k.new⟩)
      · rename_i ts hb
        obtain ⟨e, s⟩ := ihb _ _ _ h
        refine ⟨⟨e.nx, e.n, e.mem⟩, (Sound.bool (P := P) (A := A) hb).bind (Sound.like (s.mono fun h' hyt D ρ ac w Q hs hD hk => ?_) ⟨rfl, rfl⟩ ⟨rfl, rfl⟩)⟩
        subst hyt
        have he := (Looks.all st.env).ev hs.fr c _ hy
        exact wp_cond_false he.1 (h' D ρ ac w Q ⟨hs.fr, hs.size, hs.defers, hs.mem⟩ hD fun ρ' a' w' k => hk ρ' a' w' ⟨k.same, k.ok, k.kept, k.new⟩)
    · cases h
  | block id c ih =>
    intro st x st' h
    simp only [exec] at h
    split at h
    · rename_i j st1 h1
      obtain ⟨e, s⟩ := ih _ _ _ h1
      cases hb : Nat.beq j id <;> simp only [hb, cond, Option.some.injEq, Prod.mk.injEq] at h
      · obtain ⟨rfl, rfl⟩ := h
        refine ⟨e, s.mono fun h' D ρ ac w Q hs hD hk => wp_block (h' D ρ ac w _ hs hD fun ρ1 a1 w1 h3 => ?_)⟩
        have := hk ρ1 a1 w1 h3
        show if j = id then _ else _
        rw [if_neg (Nat.ne_of_beq_eq_false hb)]
        exact this
      · obtain ⟨rfl, rfl⟩ := h
        refine ⟨e, s.mono fun h' D ρ ac w Q hs hD hk => wp_block (h' D ρ ac w _ hs hD fun ρ1 a1 w1 h3 => ?_)⟩
        have := hk ρ1 a1 w1 h3
        show if j = id then _ else _
        rw [if_pos (Nat.eq_of_beq_eq_true hb)]
        exact this
    · rename_i hr
      obtain ⟨e, s⟩ := ih _ _ _ h
      refine ⟨e, s.mono fun h' D ρ ac w Q hs hD hk => wp_block (h' D ρ ac w _ hs hD fun ρ1 a1 w1 h3 => ?_)⟩
      have := hk ρ1 a1 w1 h3
      cases x <;> first | exact absurd h (hr _ _) | exact this
  | loop c ih =>
    intro st x st' h
    simp only [exec] at h
    obtain ⟨e, s, _⟩ := loopN_S (fun st x st' h => ih st x st' h) fuel st x st' h
    exact ⟨e, s.mono fun h' D ρ ac w Q hs hD hk => wp_of_wpL (h' D ρ ac w Q hs hD hk)⟩
  | _ => intro st x st' h; cases h
end Rx
end Go.Proofs.YtilfcikhipadpaaGreatDoor
end

section
/- A run reckoned by the kernel: functions; the theorem that proofs use. No program. -/
set_option linter.unusedVariables false
set_option linter.unusedSimpArgs false
namespace Go.Proofs.YtilfcikhipadpaaGreatDoor
open Go.RowKit Go.Lib
namespace Rx
variable {P : Program} {A : Amb}

def resF (tmps : Array Value) : ResultVar → Sem Value
  | .tmp t => pure (tmps.getD t undef)
  | .cell p t => do loadVar t (← asAddr (tmps.getD p undef))
theorem resA_run {D : Nat → Prop} {ρ : Nm} {e : Env} {m : Mem} {a : Act} {w : World} (hf : FrOK D ρ (fun _ => True) e a) (hm : MemOK P A D ρ m w) : ∀ (rs : List ResultVar) (vs : List Value), resA P e m rs = some vs → vs.all notTuple = true →
    (rs.mapM (resF a.tmps)).run P w = .ok (vs.map (ren ρ)) w ∧ ∀ v ∈ vs, Fit D v
  | [], vs, h, _ => by
    simp only [resA, Option.some.injEq] at h
    subst h
    exact ⟨rfl, fun _ h => by cases h⟩
  | .tmp t :: rs, vs, h, hn => by
    simp only [resA] at h
    split at h
    · rename_i v hv
      split at h
      · rename_i us hus
        simp only [Option.some.injEq] at h
        subst h
        simp only [List.all_cons, Bool.and_eq_true] at hn
        obtain ⟨h1, h2⟩ := resA_run hf hm rs us hus hn.2
        obtain ⟨h3, h4⟩ := hf t v trivial hv
        refine ⟨?_, fun u hu => ?_⟩
        · rw [List.mapM_cons]
          have : (resF a.tmps (.tmp t)).run P w = .ok (ren ρ v) w := by
            have := eval_tmp h3
            simp only [Act.eval] at this
            simp only [resF]
            rw [this]; rfl
          rw [run_bind_ok this, run_bind_ok h1]
          rfl
        · rcases List.mem_cons.1 hu with rfl | hu
          · exact h4
          · exact h2 u hu
      · cases h
    · cases h
  | .cell p t :: rs, vs, h, hn => by
    simp only [resA] at h
    split at h
    · rename_i q hq
      split at h
      · rename_i v hv
        split at h
        · rename_i us hus
          simp only [Option.some.injEq] at h
          subst h
          simp only [List.all_cons, Bool.and_eq_true] at hn
          obtain ⟨h1, h2⟩ := resA_run hf hm rs us hus hn.2
          obtain ⟨ad, rfl, h5, h6, _⟩ := loadA_run hm hv
          obtain ⟨h3, h4⟩ := hf p _ trivial hq
          refine ⟨?_, fun u hu => ?_⟩
          · rw [List.mapM_cons]
            have h7 : (asAddr (a.tmps.getD p undef) : Sem Addr).run P w = .ok (renA ρ ad) w := by
              have := eval_tmp h3
              simp only [Act.eval] at this
              rw [this]; rfl
            have h8 : (resF a.tmps (.cell p t)).run P w = .ok (ren ρ v) w := by
              simp only [resF]
              rw [run_bind_ok h7]; exact h5
            rw [run_bind_ok h8, run_bind_ok h1]
            rfl
          · rcases List.mem_cons.1 hu with rfl | hu
            · exact h6
            · exact h2 u hu
        · cases h
      · cases h
    · cases h
theorem ren_one {ρ : Nm} {vs : List Value} (h : vs.all notTuple = true) : (if hs : (vs.map (ren ρ)).toArray.size = 1 then (vs.map (ren ρ)).toArray[0] else .tuple (vs.map (ren ρ)).toArray) = ren ρ (one vs) := by
  match vs, h with
  | [], _ => rfl
  | [v], _ => rfl
  | a :: b :: c, h =>
    have : (a :: b :: c).map (ren ρ) = (a :: b :: c).map (ren1 ρ) := List.map_congr_left fun v hv => ren_notTuple (List.all_eq_true.1 h v hv)
    rw [dif_neg (by simp)]
    simp only [one, ren]
    rw [this]
theorem results_run {fn : Func} {D : Nat → Prop} {ρ : Nm} {e : Env} {m : Mem} {a : Act} {w : World} (hf : FrOK D ρ (fun _ => True) e a) (hm : MemOK P A D ρ m w) {vs : List Value} (h : resA P e m fn.results.toList = some vs) (hn : vs.all notTuple = true) :
    (results fn a.tmps).run P w = .ok (ren ρ (one vs)) w ∧ Fit D (one vs) := by
  obtain ⟨h1, h2⟩ := resA_run hf hm _ _ h hn
  refine ⟨?_, Fit.one fun v hv => ⟨h2 v hv, List.all_eq_true.1 hn v hv⟩⟩
  have h3 : (fn.results.mapM (resF a.tmps)).run P w = .ok (vs.map (ren ρ)).toArray w := by
    rw [Array.mapM_eq_mapM_toList, Sem.run_map, h1]
    rfl
  have h4 : results fn a.tmps = (fn.results.mapM (resF a.tmps) >>= fun vs => pure (if h : vs.size = 1 then vs[0] else .tuple vs)) := by
    unfold results
    rfl
  rw [h4, run_bind_ok h3, ← ren_one hn]
  rfl
theorem maxN_eq (a b : Nat) : maxN a b = max a b := by
  unfold maxN
  cases h : Nat.ble a b <;> simp only [cond]
  · have := Nat.not_le_of_not_ble_eq_true (by rw [h]; exact Bool.false_ne_true); omega
  · have := Nat.le_of_ble_eq_true h; omega
theorem callN_S (hm : P.follows .mixedOrders = true) : ∀ k, CallS P A (callN P k)
  | 0 => fun f args m nx ts out h => by cases h
  | k + 1 => fun f args m nx ts out h => by
    simp only [callN] at h
    split at h
    · rename_i fn hfn
      split at h
      · rename_i c hbody
        split at h
        · cases h
        · rename_i x st hne hx
          split at h
          · rename_i vs hvs
            cases hb : vs.all notTuple <;> simp only [hb, cond] at h
            · cases h
            · simp only [Option.some.injEq] at h
              subst h
              obtain ⟨e, s⟩ := exec_S (A := A) hm (callN_S hm k) k c _ x st hx
              obtain ⟨l, e1, e2, e3⟩ := e.mem
              have e3 : st.log = l := by rw [e3]; simp
              refine ⟨e.nx, by rw [e3]; exact e2, rfl, s.mono fun h' D ρ w hmem hargs hD => ?_⟩
              refine calls_of_wp hfn hbody (h' D ρ _ w _ ⟨fun t u _ hu => ?_, ?_, rfl, hmem⟩ hD fun ρ' a' w' k' => ?_)
              · simp only [env0] at hu
                split at hu
                · rename_i v hv
                  simp only [Option.some.injEq] at hu
                  subst hu
                  refine ⟨?_, hargs _ (List.mem_of_getElem? hv)⟩
                  have hlt := (List.getElem?_eq_some_iff.1 hv).1
                  simp [Array.getElem?_append, hlt, (List.getElem?_eq_some_iff.1 hv).2]
                · rename_i hv
                  cases hb2 : Nat.blt t fn.ntmps <;> simp only [hb2, cond] at hu
                  · cases hu
                  · simp only [Option.some.injEq] at hu
                    subst hu
                    refine ⟨?_, Fit.real rfl⟩
                    have h1 : args.length ≤ t := List.getElem?_eq_none_iff.1 hv
                    have h2 : t < fn.ntmps := by simpa [Nat.blt_eq] using hb2
                    rw [Array.getElem?_append_right (by simpa using h1)]
                    simp only [List.size_toArray, List.length_map]
                    rw [Array.getElem?_replicate, if_pos (by omega)]
                    rfl
              · simp [maxN_eq]; omega
              · have hr := results_run k'.ok.fr k'.ok.mem hvs hb
                have hend : bodyPost P fn (fun e w' => ∃ ρ', e = .returned (ren ρ' (one vs)) ∧ Aft P A D ρ m nx w (one vs) st.log st.nx ρ' w') .normal a' w' := by
                  refine ⟨k'.ok.defers, _, hr.1, ρ', rfl, k'.same, hr.2, ?_, k'.kept, fun i b h1 h2 h3 => k'.new i b h1 h2 (by rw [e1, ← e3]; exact h3)⟩
                  have := k'.ok.mem
                  rw [e1, ← e3] at this
                  exact this
                cases x with
                | nrm => exact hend
                | ret => exact hend
                | ex id => exact (hne id rfl).elim
          · cases h
        · cases h
      · cases h
    · cases h

/-- a question with its answer, and why it is right -/
structure Ev (P : Program) (A : Amb) where
  at_ : Nat
  ans : Ans
  key : Key
  ok : okP P A ans key
def asOf (evs : List (Ev P A)) : List (Nat × Ans) := evs.map fun e => (e.at_, e.ans)
def keysOf (evs : List (Ev P A)) : List Key := evs.map (·.key)
theorem ok_all {evs : List (Ev P A)} : ∀ {l : List ((Nat × Ans) × Key)}, asOf evs = l.map (·.1) → keysOf evs = l.map (·.2) → ∀ p ∈ l, okP P A p.1.2 p.2 := by
  induction evs with
  | nil => intro l h1 _ p hp; cases l with
    | nil => cases hp
    | cons x l => cases h1
  | cons e evs ih => intro l h1 h2 p hp; cases l with
    | nil => cases hp
    | cons x l =>
      simp only [asOf, keysOf, List.map_cons, List.cons.injEq] at h1 h2
      rcases List.mem_cons.1 hp with rfl | hp
      · rw [← h1.1, ← h2.1]; exact e.ok
      · exact ih h1.2 h2.2 p hp
def yes (n : Nat) {b : Bool} (h : b = true) : Ev P A := ⟨n, .br true, .b b, h⟩
def no (n : Nat) {b : Bool} (h : b = false) : Ev P A := ⟨n, .br false, .b b, h⟩
def does (n : Nat) {f : FuncId} {args : List Value} {v : Value} (h : ∀ W, A.S W → Calls P f args.toArray W (Ret v W)) : Ev P A := ⟨n, .call v, .c f args, h⟩
def gives (n : Nat) {s : Sem Next} {v : Value} (h : ∀ W, A.S W → s.run P W = .ok (.value v) W) : Ev P A := ⟨n, .op v, .s s, h⟩
def is (n : Nat) {x y : Value} (h : x = y) : Ev P A := ⟨n, .eq y, .v x, h⟩
def isT (n : Nat) {b : Bool} (h : b = true) : Ev P A := is n (x := .bool b) (y := .bool true) (congrArg _ h)
def isF (n : Nat) {b : Bool} (h : b = false) : Ev P A := is n (x := .bool b) (y := .bool false) (congrArg _ h)
/-- what a run says: the value, what of the answers is left, the questions -/
def res (P : Program) (f : FuncId) (args : List Value) (qs : List (Nat × Ans)) : Option (Value × List (Nat × Ans) × List Key) :=
  match go P f args qs with
  | some ⟨v, _, _, ts⟩ => some (v, ts.qs, ts.ks)
  | none => none
/-- THE THEOREM: what the kernel reckons of a way is what the call does. -/
theorem run {w0 : World} {f : FuncId} {args : List Value} {v : Value} (evs : List (Ev P (Amb.of w0))) (h : res P f args (asOf evs) = some (v, [], (keysOf evs).reverse) := by kernel_rfl) (hm : P.follows .mixedOrders = true := by kernel_rfl) (ha : args.all real = true := by kernel_rfl) (hv : real v = true := by kernel_rfl) :
    Calls P f args.toArray w0 (Ret v w0) := by
  unfold res at h
  split at h
  · rename_i v' l nx ts hgo
    simp only [Option.some.injEq, Prod.mk.injEq] at h
    obtain ⟨rfl, h1, h2⟩ := h
    obtain ⟨_, _, _, tr, ⟨t1, t2⟩, hs⟩ := callN_S (A := Amb.of w0) hm fuel0 f args _ 0 ⟨0, asOf evs, []⟩ _ hgo
    have t1 : asOf evs = tr.map (·.1) := by rw [h1] at t1; simpa using t1
    have t2 : keysOf evs = tr.map (·.2) := by
      rw [h2] at t2
      have := congrArg List.reverse t2
      simpa using this
    have hc := hs (ok_all t1 t2) (fun _ => False) (fun _ => (0, 0)) w0 ⟨Below.refl _ _, fun {i b} h => (by cases h), fun {i cs T r} h => (by cases h), fun {i cs T r} h => (by cases h), fun {i j b c} h => (by cases h)⟩ (fun u hu => Fit.real (List.all_eq_true.1 ha u hu)) (fun _ h => h.elim)
    rw [ren_list_real ha] at hc
    refine hc.mono ?_
    rintro e w' ⟨ρ', rfl, k⟩
    exact ⟨by rw [ren_real hv], k.mem.s⟩
  · cases h
end Rx
end Go.Proofs.YtilfcikhipadpaaGreatDoor
end

section
/- strings.Builder's methods over this program: copyCheck, WriteByte, WriteString, String leave a builder that holds what was written, and what lay below stays as it was. Conditions: at most 2^47 bytes. (Turned from the shelf's own proofs to this program.) -/
set_option linter.unusedVariables false
namespace Go.Proofs.YtilfcikhipadpaaGreatDoor
open Go.RowKit

theorem sizeBuilder : (Tryz.prog.info? 265).map (·.size) = some 2 := by kernel_rfl
theorem liesBuilder : liesAt Tryz.prog Tryz.prog.depth 265 (2 / Tryz.prog.cellsOf 265) 0 265 1 = true := by kernel_rfl
theorem infoByte : (Tryz.prog.info? 5).map (fun i => (i.zero, i.size, i.bytes)) = some (some (.int .u8 0), 1, 1) := by kernel_rfl
theorem cellsByte : Tryz.prog.cellsOf 5 = 1 := by kernel_rfl

set_option maxHeartbeats 1000000 in
set_option maxRecDepth 100000 in
theorem copyCheck_used (b : Nat) (w : World) (h0 : w.cell? ⟨b, 0, none⟩ = some (.pointer (some ⟨b, 0, none⟩))) :
    Calls Tryz.prog 202 #[.pointer (some ⟨b, 0, none⟩)] w fun e w' => e = .returned (.tuple #[]) ∧ w' = w := by
  obtain ⟨j, hj, _⟩ := Option.map_eq_some_iff.1 sizeBuilder
  go_enter Tryz.func202, Tryz.ntmps202
  go_wp2
  rw [Lib.run_neq_ptr_same w _ Tryz.underlying263 hj]
  go_wp2
  go_end0
  exact ⟨rfl, rfl⟩

set_option maxHeartbeats 1000000 in
set_option maxRecDepth 100000 in
theorem copyCheck_fresh (b : Nat) (w : World) (h0 : w.cell? ⟨b, 0, none⟩ = some (.pointer none)) (hsh : w.shape? b = some (265, 2)) (hfz : w.frozen? ⟨b, 0, none⟩ = false) :
    Calls Tryz.prog 202 #[.pointer (some ⟨b, 0, none⟩)] w fun e w' => e = .returned (.tuple #[]) ∧ w' = w.setCell ⟨b, 0, none⟩ (.pointer (some ⟨b, 0, none⟩)) := by
  obtain ⟨j, hj, hjs⟩ := Option.map_eq_some_iff.1 sizeBuilder
  go_enter Tryz.func202, Tryz.ntmps202
  go_wp2
  rw [Lib.run_to_unsafe w ⟨b, 0, none⟩ Tryz.underlying263 Tryz.underlying306 hj (by rw [hjs]; decide) hsh (Nat.zero_lt_succ 1)]
  simp only [Result.andThen]
  rw [Oper.upon_value]
  go_wp2
  rw [run_callFunc_extern Tryz.func208 (by kernel_rfl) (by kernel_rfl) (by kernel_rfl) (e := Extern.AbiNoEscape.same) (by kernel_rfl)]
  rw [Lib.run_noEscape]
  simp only [Result.andThen]
  rw [Oper.upon_value]
  go_wp2
  rw [Lib.run_from_unsafe w ⟨b, 0, none⟩ Tryz.underlying306 Tryz.underlying263 hj hsh liesBuilder]
  simp only [Result.andThen]
  rw [Oper.upon_value]
  go_wp2
  go_end0
  exact ⟨rfl, rfl⟩

theorem Builder_copyCheck (B b : Nat) (bs : List Value) (w : World) (h : Lib.IsBuilder 265 5 B b bs w) :
    Calls Tryz.prog 202 #[.pointer (some ⟨b, 0, none⟩)] w fun e w' => e = .returned (.tuple #[]) ∧ (Lib.BuilderAt 265 5 B b (.pointer (some ⟨b, 0, none⟩)) bs w' ∧ Below B w w') := by
  rcases h with h | h
  · refine (copyCheck_fresh b w h.cell0 h.shape h.frozen0).mono ?_
    rintro e w' ⟨rfl, rfl⟩
    exact ⟨rfl, h.used _, (Below.refl B w).setCell (p := ⟨b, 0, none⟩) h.1 _⟩
  · refine (copyCheck_used b w h.cell0).mono ?_
    rintro e w' ⟨rfl, rfl⟩
    exact ⟨rfl, h, Below.refl B _⟩

set_option maxHeartbeats 2000000 in
set_option maxRecDepth 100000 in
theorem Builder_WriteByte (B b : Nat) (bs : List Value) (c : Int) (w : World) (h : Lib.IsBuilder 265 5 B b bs w) (hlen : bs.length + 1 ≤ 140737488355328) (hBw : B ≤ w.heap.size) :
    Calls Tryz.prog 168 #[.pointer (some ⟨b, 0, none⟩), .int .u8 c] w fun e w' => e = .returned .nilIface ∧ (Lib.BuilderAt 265 5 B b (.pointer (some ⟨b, 0, none⟩)) (bs ++ [.int .u8 c]) w' ∧ Below B w w') := by
  obtain ⟨i0, hi, hz0, hz1, hz2⟩ := info_parts infoByte
  go_enter Tryz.func168, Tryz.ntmps168
  go_wp2_with (go_at_call 202; refine (Builder_copyCheck B b bs _ h).mono ?_)
  rintro e w1 ⟨rfl, h1, hb1⟩
  obtain ⟨hB, v, hbk, hown, hne⟩ := h1
  have c0 : w1.cell? ⟨b, 0, none⟩ = some (.pointer (some ⟨b, 0, none⟩)) := by rw [Lib.cell_of_heap hbk]; rfl
  have c1 : w1.cell? ⟨b, 1, none⟩ = some v := by rw [Lib.cell_of_heap hbk]; rfl
  go_wp2_with (at_builtin; refine wpList_append_own _ rfl _ _ 237 rfl B 5 i0 (.int .u8 0) 1 1 Tryz.underlying237 hi hz0 hz1 hz2 rfl (by decide) _ _ _ rfl (hown.alloc _) ⟨w1.heap.size, 0, none⟩ 1 1 [.int .u8 c] rfl rfl ?c1 ?c2 ?c3 ?c4 ?c5 ?_)
  case c1 =>
    intro j u hj
    match j, hj with
    | 0, hj => simp at hj; subst hj; simp [Addr.add]
  case c2 => intro u hu; simp at hu; subst hu; rfl
  case c3 => unfold maxLen; omega
  case c4 => omega
  case c5 => have := hb1.size; simp; omega
  intro v' w2 hown' hgrow _
  have hlt : b < w1.heap.size := by
    rcases Nat.lt_or_ge b w1.heap.size with h' | h'
    · exact h'
    · simp [Array.getElem?_eq_none h'] at hbk
  have hb2 : w2.heap[b]? = some (.cells #[.pointer (some ⟨b, 0, none⟩), v] 265 (0, 0)) := by
    rw [hgrow.block b (by simp; omega) (fun e => hne e.symm), Lib.alloc_old w1 _ b hlt]
    exact hbk
  have d0 : w2.cell? ⟨b, 0, none⟩ = some (.pointer (some ⟨b, 0, none⟩)) := by rw [Lib.cell_of_heap hb2]; rfl
  have d1 : w2.cell? ⟨b, 1, none⟩ = some v := by rw [Lib.cell_of_heap hb2]; rfl
  have f1 : w2.frozen? ⟨b, 1, none⟩ = false := Lib.frozen_of_heap hb2 1
  obtain ⟨g, cap, rfl⟩ : ∃ g cap, v' = .slice (some ⟨g, 0, none⟩) (bs.length + 1) cap := by
    rcases hown'.2 with ⟨_, h0⟩ | ⟨g, cap, cur, hv, _⟩
    · omega
    · exact ⟨g, cap, hv⟩
  go_wp2
  go_ret
  refine ⟨rfl, ?_, ?_⟩
  · exact Lib.BuilderAt.put (T := 265) (e := 5) hB hb2 (bs' := bs ++ [.int .u8 c]) (by simpa using hown') (by decide)
  · exact ((hb1.alloc (by have := hb1.size; omega) _).grown hgrow (by have := hb1.size; simp; omega) (fun k hk => (hown.lt k hk).1)).setCell (p := ⟨b, 1, none⟩) hB _

set_option maxHeartbeats 2000000 in
set_option maxRecDepth 100000 in
theorem Builder_WriteString (B b : Nat) (bs : List Value) (s : ByteArray) (w : World) (h : Lib.IsBuilder 265 5 B b bs w) (hlen : bs.length + s.size ≤ 140737488355328) (hBw : B ≤ w.heap.size) :
    Calls Tryz.prog 201 #[.pointer (some ⟨b, 0, none⟩), .string s] w fun e w' => e = .returned (.tuple #[.int .i64 s.size, .nilIface]) ∧ (Lib.BuilderAt 265 5 B b (.pointer (some ⟨b, 0, none⟩)) (bs ++ Lib.strCells s) w' ∧ Below B w w') := by
  obtain ⟨i0, hi, hz0, hz1, hz2⟩ := info_parts infoByte
  go_enter Tryz.func201, Tryz.ntmps201
  go_wp2_with (go_at_call 202; refine (Builder_copyCheck B b bs _ h).mono ?_)
  rintro e w1 ⟨rfl, h1, hb1⟩
  obtain ⟨hB, v, hbk, hown, hne⟩ := h1
  have c0 : w1.cell? ⟨b, 0, none⟩ = some (.pointer (some ⟨b, 0, none⟩)) := by rw [Lib.cell_of_heap hbk]; rfl
  have c1 : w1.cell? ⟨b, 1, none⟩ = some v := by rw [Lib.cell_of_heap hbk]; rfl
  go_wp2_with (at_builtin; refine Lib.wpList_append_own_string _ rfl _ _ 237 9 rfl B 5 i0 Tryz.underlying237 Tryz.underlying9 hi hz0 hz1 hz2 _ _ _ rfl hown s rfl ?c3 ?c4 ?c5 ?_)
  case c3 => unfold maxLen; omega
  case c4 => omega
  case c5 => have := hb1.size; omega
  intro v' w2 hown' hgrow _
  have hlt : b < w1.heap.size := by
    rcases Nat.lt_or_ge b w1.heap.size with h' | h'
    · exact h'
    · simp [Array.getElem?_eq_none h'] at hbk
  have hb2 : w2.heap[b]? = some (.cells #[.pointer (some ⟨b, 0, none⟩), v] 265 (0, 0)) := by
    rw [hgrow.block b hlt (fun e => hne e.symm)]
    exact hbk
  have d0 : w2.cell? ⟨b, 0, none⟩ = some (.pointer (some ⟨b, 0, none⟩)) := by rw [Lib.cell_of_heap hb2]; rfl
  have d1 : w2.cell? ⟨b, 1, none⟩ = some v := by rw [Lib.cell_of_heap hb2]; rfl
  have f1 : w2.frozen? ⟨b, 1, none⟩ = false := Lib.frozen_of_heap hb2 1
  obtain ⟨ao, n', cap, rfl⟩ : ∃ ao n' cap, v' = .slice ao n' cap := by
    rcases hown'.2 with ⟨hv, _⟩ | ⟨g, cap, cur, hv, _⟩
    · exact ⟨_, _, _, hv⟩
    · exact ⟨_, _, _, hv⟩
  go_wp2
  go_ret2
  refine ⟨rfl, ?_, ?_⟩
  · exact Lib.BuilderAt.put (T := 265) (e := 5) hB hb2 (bs' := bs ++ Lib.strCells s) (by simpa [Lib.strCells_length] using hown') (by decide)
  · exact (hb1.grown hgrow (by have := hb1.size; omega) (fun k hk => (hown.lt k hk).1)).setCell (p := ⟨b, 1, none⟩) hB _

set_option maxHeartbeats 1000000 in
set_option maxRecDepth 100000 in
theorem Builder_String_some (B b : Nat) (l : List UInt8) (w : World) (h : Lib.IsBuilder 265 5 B b (Lib.byteCells l) w) (h0 : l ≠ []) :
    Calls Tryz.prog 169 #[.pointer (some ⟨b, 0, none⟩)] w fun e w' => e = .returned (.string ⟨l.toArray⟩) ∧ Below B w w' := by
  obtain ⟨p, hB, v, hbk, hown, hne⟩ : ∃ p, Lib.BuilderAt 265 5 B b p (Lib.byteCells l) w := by
    rcases h with h | h
    · exact ⟨_, h⟩
    · exact ⟨_, h⟩
  have hl0 : l.length ≠ 0 := by simpa using h0
  rw [Lib.byteCells_length] at hown
  obtain ⟨g, cap, cur, rfl, hbg, hg, hnc, hcm, hcs, htake⟩ : ∃ g cap cur, v = .slice (some ⟨g, 0, none⟩) l.length cap ∧ B ≤ g ∧ w.heap[g]? = some (.cells cur 5 (0, 0)) ∧ l.length ≤ cap ∧ cap ≤ maxLen ∧ cur.size = cap * 1 ∧ cur.toList.take (l.length * 1) = Lib.byteCells l := by
    rcases hown.2 with ⟨_, hz⟩ | ⟨g, cap, cur, hv, r⟩
    · exact absurd hz hl0
    · exact ⟨g, cap, cur, hv, r⟩
  have c1 : w.drew.cell? ⟨b, 1, none⟩ = some (.slice (some ⟨g, 0, none⟩) l.length cap) := by
    have : w.drew.heap[b]? = some (.cells #[p, .slice (some ⟨g, 0, none⟩) l.length cap] 265 (0, 0)) := hbk
    rw [Lib.cell_of_heap this]; rfl
  have hSD : (Builtin.unsafeSliceData_ #[237] 298 #[.slice (some ⟨g, 0, none⟩) l.length cap]).run Tryz.prog w.drew = .ok (.pointer (some ⟨g, 0, none⟩)) w.drew :=
    Lib.run_unsafeSliceData_row _ _ _ _ _ _ (by omega)
  have hUS : (Builtin.unsafeString_ #[298, 3] 9 #[.pointer (some ⟨g, 0, none⟩), .int .i64 l.length]).run Tryz.prog w.drew = .ok (.string ⟨l.toArray⟩) (w.drew.freeze ⟨g, 0, none⟩ l.length) := by
    refine Lib.run_unsafeString_row w.drew 298 3 9 5 Tryz.underlying298 cellsByte g cur.size (by have hg' : w.drew.heap[g]? = some (.cells cur 5 (0, 0)) := hg; simp [World.shape?, hg']) l h0 (by omega) (by unfold maxLen at hcm; omega) ?_
    intro j x hx
    have := hown.cells (g := g) rfl j (.int .u8 x.toNat) (by simp [Lib.byteCells, hx])
    exact this
  go_enter Tryz.func169, Tryz.ntmps169
  go_wp2
  go_region
  all_goals (go_wp2; go_ret; exact ⟨rfl, Lib.below_freeze (Below.drew (Below.refl B w)) (p := ⟨g, 0, none⟩) hbg _⟩)

theorem unsafeString_none (W : World) (q : Option Addr) : (Builtin.unsafeString_ #[298, 3] 9 #[.pointer q, .int .i64 0]).run Tryz.prog W = .ok (.string .empty) W :=
  Lib.run_unsafeString_none W _ _ _ q

set_option maxHeartbeats 2000000 in
set_option maxRecDepth 100000 in
theorem Builder_String_nil (B b : Nat) (p : Value) (w : World) (hbk : w.heap[b]? = some (.cells #[p, .slice none 0 0] 265 (0, 0))) :
    Calls Tryz.prog 169 #[.pointer (some ⟨b, 0, none⟩)] w fun e w' => e = .returned (.string ⟨#[]⟩) ∧ Below B w w' := by
  have hUS := unsafeString_none
  have c1 : w.drew.cell? ⟨b, 1, none⟩ = some (.slice none 0 0) := by
    have : w.drew.heap[b]? = some (.cells #[p, .slice none 0 0] 265 (0, 0)) := hbk
    rw [Lib.cell_of_heap this]; rfl
  have hSD : (Builtin.unsafeSliceData_ #[237] 298 #[.slice none 0 0]).run Tryz.prog w.drew = .ok (.pointer none) w.drew := rfl
  go_enter Tryz.func169, Tryz.ntmps169
  go_wp2
  go_region
  all_goals (go_wp2; go_ret; exact ⟨rfl, Below.drew (Below.refl B w)⟩)

set_option maxHeartbeats 2000000 in
set_option maxRecDepth 100000 in
theorem Builder_String_noroom (B b g : Nat) (p : Value) (cur : Array Value) (w : World) (hBw : B ≤ w.heap.size) (hbk : w.heap[b]? = some (.cells #[p, .slice (some ⟨g, 0, none⟩) 0 0] 265 (0, 0))) (hg : w.heap[g]? = some (.cells cur 5 (0, 0))) :
    Calls Tryz.prog 169 #[.pointer (some ⟨b, 0, none⟩)] w fun e w' => e = .returned (.string ⟨#[]⟩) ∧ Below B w w' := by
  have hUS := unsafeString_none
  have hlt : b < w.heap.size := by
    rcases Nat.lt_or_ge b w.heap.size with h' | h'
    · exact h'
    · simp [Array.getElem?_eq_none h'] at hbk
  have c1 : w.drew.cell? ⟨b, 1, none⟩ = some (.slice (some ⟨g, 0, none⟩) 0 0) := by
    have : w.drew.heap[b]? = some (.cells #[p, .slice (some ⟨g, 0, none⟩) 0 0] 265 (0, 0)) := hbk
    rw [Lib.cell_of_heap this]; rfl
  have hSD : (Builtin.unsafeSliceData_ #[237] 298 #[.slice (some ⟨g, 0, none⟩) 0 0]).run Tryz.prog w.drew = .ok (.pointer (some ⟨w.drew.heap.size, 0, none⟩)) (w.drew.alloc (.view ⟨g, 0, none⟩ 5)) :=
    Lib.run_unsafeSliceData_zero w.drew _ _ 5 Tryz.underlying298 ⟨g, 0, none⟩ 0 (5, cur.size) (by have hg' : w.drew.heap[g]? = some (.cells cur 5 (0, 0)) := hg; simp [World.shape?, hg'])
  have c2 : (w.drew.alloc (.view ⟨g, 0, none⟩ 5)).cell? ⟨b, 1, none⟩ = some (.slice (some ⟨g, 0, none⟩) 0 0) := by
    have : (w.drew.alloc (.view ⟨g, 0, none⟩ 5)).heap[b]? = _ := (Lib.alloc_old w.drew _ b hlt).trans hbk
    rw [Lib.cell_of_heap this]; rfl
  have c3 : (w.alloc (.view ⟨g, 0, none⟩ 5)).drew.cell? ⟨b, 1, none⟩ = some (.slice (some ⟨g, 0, none⟩) 0 0) := c2
  have c0 : w.cell? ⟨b, 1, none⟩ = some (.slice (some ⟨g, 0, none⟩) 0 0) := c1
  go_enter Tryz.func169, Tryz.ntmps169
  go_wp2
  go_region
  all_goals (go_wp2; go_ret; exact ⟨rfl, (Below.drew (Below.refl B w)).alloc hBw _⟩)

set_option maxHeartbeats 2000000 in
set_option maxRecDepth 100000 in
theorem Builder_String_room (B b g cap : Nat) (p : Value) (w : World) (hc0 : cap ≠ 0) (hbk : w.heap[b]? = some (.cells #[p, .slice (some ⟨g, 0, none⟩) 0 cap] 265 (0, 0))) :
    Calls Tryz.prog 169 #[.pointer (some ⟨b, 0, none⟩)] w fun e w' => e = .returned (.string ⟨#[]⟩) ∧ Below B w w' := by
  have hUS := unsafeString_none
  have c1 : w.drew.cell? ⟨b, 1, none⟩ = some (.slice (some ⟨g, 0, none⟩) 0 cap) := by
    have : w.drew.heap[b]? = some (.cells #[p, .slice (some ⟨g, 0, none⟩) 0 cap] 265 (0, 0)) := hbk
    rw [Lib.cell_of_heap this]; rfl
  have hSD : (Builtin.unsafeSliceData_ #[237] 298 #[.slice (some ⟨g, 0, none⟩) 0 cap]).run Tryz.prog w.drew = .ok (.pointer (some ⟨g, 0, none⟩)) w.drew :=
    Lib.run_unsafeSliceData_row _ _ _ _ _ _ hc0
  clear hc0
  go_enter Tryz.func169, Tryz.ntmps169
  go_wp2
  go_region
  all_goals (go_wp2; go_ret; exact ⟨rfl, Below.drew (Below.refl B w)⟩)

theorem Builder_String_empty (B b : Nat) (w : World) (h : Lib.IsBuilder 265 5 B b [] w) (hBw : B ≤ w.heap.size) :
    Calls Tryz.prog 169 #[.pointer (some ⟨b, 0, none⟩)] w fun e w' => e = .returned (.string ⟨#[]⟩) ∧ Below B w w' := by
  obtain ⟨p, hB, v, hbk, hown, hne⟩ : ∃ p, Lib.BuilderAt 265 5 B b p [] w := by
    rcases h with h | h
    · exact ⟨_, h⟩
    · exact ⟨_, h⟩
  rcases hown.2 with ⟨rfl, _⟩ | ⟨g, cap, cur, rfl, hbg, hg, _, _, _, _⟩
  · exact Builder_String_nil B b p w hbk
  · by_cases hc0 : cap = 0
    · subst hc0
      exact Builder_String_noroom B b g p cur w hBw hbk hg
    · exact Builder_String_room B b g cap p w hc0 hbk

/-- String: whatever the builder holds. -/
theorem Builder_String (B b : Nat) (l : List UInt8) (w : World) (h : Lib.IsBuilder 265 5 B b (Lib.byteCells l) w) (hBw : B ≤ w.heap.size) :
    Calls Tryz.prog 169 #[.pointer (some ⟨b, 0, none⟩)] w fun e w' => e = .returned (.string (S l)) ∧ Below B w w' := by
  cases l with
  | nil => exact Builder_String_empty B b w h hBw
  | cons x r => exact Builder_String_some B b (x :: r) w h (by simp)
end Go.Proofs.YtilfcikhipadpaaGreatDoor
end
