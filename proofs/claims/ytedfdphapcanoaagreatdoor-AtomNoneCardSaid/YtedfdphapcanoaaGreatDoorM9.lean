/- Several texts of this claim, one behind the other. -/
import Derived.Test.YtedfdphapcanoaaGreatDoorM8
import Derived.KernelRfl

section
/- A run reckoned by the kernel: code, calls, and what it is good for. No program. -/
set_option linter.unusedVariables false
set_option linter.unusedSimpArgs false
namespace Go.Proofs.YtedfdphapcanoaaGreatDoor
open Go.RowKit Go.Lib
namespace Rx
variable {P : Program} {A : Amb}

/-- the code c, run from st, is left by x at st' -/
def CodeS (P : Program) (A : Amb) (c : Code) (st : St) (x : X) (st' : St) : Prop :=
  Ext st st' ∧ Sound P A st.ts st'.ts (∀ (D : Nat → Prop) (ρ : Nm) (a : Act) (w : World) (Q : Exit → Act → World → Prop), StOK P A D ρ st a w → (∀ i, D i → ¬ (st.nx ≤ i ∧ i < st'.nx)) →
    (∀ ρ' a' w', StAft P A D ρ st w st' ρ' a' w' → Q (exitOf x) a' w') → c.wp P Q a w)
theorem CodeS.nil {c : Code} {st : St} {x : X} (h : ∀ (Q : Exit → Act → World → Prop) a w, Q (exitOf x) a w → c.wp P Q a w) : CodeS P A c st x st :=
  ⟨Ext.refl _, Sound.refl fun D ρ a w Q hs hD hk => h Q a w (hk ρ a w (StAft.refl hs))⟩
theorem CodeS.seq {a b : Code} {s0 s1 s2 : St} {x : X} (h : CodeS P A a s0 .nrm s1) (k : CodeS P A b s1 x s2) : CodeS P A (.seq a b) s0 x s2 := by
  obtain ⟨h1, h2⟩ := h
  obtain ⟨k1, k2⟩ := k
  refine ⟨h1.trans k1, h2.bind (k2.mono fun k' h' D ρ ac w Q hs hD hk => wp_seq (h' D ρ ac w _ hs (fun i hi => fun ⟨x, y⟩ => hD i hi ⟨x, by have := k1.nx; omega⟩) fun ρ1 a1 w1 h3 => ?_))⟩
  exact k' _ ρ1 a1 w1 Q h3.ok (ext_disj hD h1.nx) fun ρ2 a2 w2 h4 => hk ρ2 a2 w2 (StAft.trans h1 k1 hs.mem hD h3 h4)
theorem StOK.drew {D : Nat → Prop} {ρ : Nm} {st : St} {a : Act} {w : World} (h : StOK P A D ρ st a w) : StOK P A D ρ st a { w with drawn := w.drawn + 1 } :=
  ⟨h.fr, h.size, h.defers, h.mem.kept (Kept.drew (fun _ => False) w) (fun _ k => k.elim) (fun _ _ _ k => k)⟩
theorem StAft.undrew {D : Nat → Prop} {ρ ρ' : Nm} {st st' : St} {a' : Act} {w w' : World} (h : StAft P A D ρ st { w with drawn := w.drawn + 1 } st' ρ' a' w') : StAft P A D ρ st w st' ρ' a' w' :=
  ⟨h.same, h.ok, Kept.trans (Kept.drew (fun _ => False) w) h.kept (fun _ _ k => k.elim) (fun _ _ k => k), h.new⟩

/-- a loop, from the head of a round on -/
def wpL (P : Program) (c : Code) (Q : Exit → Act → World → Prop) (a : Act) (w : World) : Prop :=
  ∀ (b : Frame) (k : List Item) (cs : List Frame), ∃ e a' w', Q e a' w' ∧ Arrives P (lone (b.at a (.code c :: .inLoop c :: k)) cs w) b k cs e a' w'
theorem wpL_step {c : Code} {Q : Exit → Act → World → Prop} {a : Act} {w : World} (h : c.wp P (Exit.then (wpL P c Q) Q) a w) : wpL P c Q a w := by
  intro b k cs
  obtain ⟨e, a₁, w₁, hq, harr⟩ := h b (.inLoop c :: k) cs
  cases e with
  | normal =>
    obtain ⟨e₂, a₂, w₂, hq₂, harr₂⟩ := hq b k cs
    exact ⟨e₂, a₂, w₂, hq₂, .of_steps (Steps.trans harr (.one step_inLoop)) harr₂⟩
  | exit id => exact ⟨_, a₁, w₁, hq, .pass (x := .inLoop c) rfl (fun _ _ => .inl (by simp)) harr⟩
  | goto l => exact ⟨_, a₁, w₁, hq, .pass (x := .inLoop c) rfl (fun _ _ => .inl (by simp)) harr⟩
  | ret => exact ⟨_, a₁, w₁, hq, .pass (x := .inLoop c) rfl (fun _ _ => .inl (by simp)) harr⟩
  | panic ch => exact ⟨_, a₁, w₁, hq, .pass (x := .inLoop c) rfl (fun _ _ => .inl (by simp)) harr⟩
  | outgrown => exact ⟨_, a₁, w₁, hq, .pass (x := .inLoop c) rfl (fun _ _ => .inl (by simp)) harr⟩
theorem wp_of_wpL {c : Code} {Q : Exit → Act → World → Prop} {a : Act} {w : World} (h : wpL P c Q a w) : (Code.loop c).wp P Q a w := by
  intro b k cs
  obtain ⟨e, a', w', hq, harr⟩ := h b k cs
  exact ⟨e, a', w', hq, .of_steps (.one step_loop) harr⟩
theorem loopN_S {c : Code} {f : St → Option (X × St)} (hf : ∀ st x st', f st = some (x, st') → CodeS P A c st x st') : ∀ (n : Nat) (st : St) (x : X) (st' : St), loopN f n st = some (x, st') →
    Ext st st' ∧ Sound P A st.ts st'.ts (∀ (D : Nat → Prop) (ρ : Nm) (a : Act) (w : World) (Q : Exit → Act → World → Prop), StOK P A D ρ st a w → (∀ i, D i → ¬ (st.nx ≤ i ∧ i < st'.nx)) →
      (∀ ρ' a' w', StAft P A D ρ st w st' ρ' a' w' → Q (exitOf x) a' w') → wpL P c Q a w) ∧ x ≠ .nrm
  | 0, _, _, _, h => by cases h
  | n + 1, st, x, st', h => by
    simp only [loopN] at h
    split at h
    · rename_i st1 h1
      obtain ⟨e1, s1⟩ := hf _ _ _ h1
      obtain ⟨e2, s2, hx⟩ := loopN_S hf n st1 x st' h
      refine ⟨e1.trans e2, s1.bind (s2.mono fun k' h' D ρ a w Q hs hD hk => wpL_step (h' D ρ a w _ hs (fun i hi => fun ⟨x, y⟩ => hD i hi ⟨x, by have := e2.nx; omega⟩) fun ρ1 a1 w1 h3 => ?_)), hx⟩
      exact k' _ ρ1 a1 w1 Q h3.ok (ext_disj hD e1.nx) fun ρ2 a2 w2 h4 => hk ρ2 a2 w2 (StAft.trans e1 e2 hs.mem hD h3 h4)
    · rename_i hr
      have hx : x ≠ .nrm := fun e => by subst e; exact hr _ h
      obtain ⟨e1, s1⟩ := hf _ _ _ h
      refine ⟨e1, s1.mono fun h' D ρ a w Q hs hD hk => wpL_step (h' D ρ a w _ hs hD fun ρ1 a1 w1 h3 => ?_), hx⟩
      have := hk ρ1 a1 w1 h3
      cases x <;> first | exact absurd rfl hx | exact this
theorem look_spec {e : Env} : ∀ {l : List Nat} {vs : List (Nat × Value)}, look e l = some vs → ∀ t u, envL vs t = some u → e t = some u
  | [], vs, h, t, u, hu => by
    simp only [look, Option.some.injEq] at h
    subst h; cases hu
  | s :: l, vs, h, t, u, hu => by
    simp only [look] at h
    split at h
    · rename_i v hv
      split at h
      · rename_i r hr
        simp only [Option.some.injEq] at h
        subst h
        simp only [envL, Env.put] at hu
        cases hts : Nat.beq t s <;> simp only [hts, cond] at hu
        · exact look_spec hr t u hu
        · simp only [Option.some.injEq] at hu
          subst hu
          rw [Nat.eq_of_beq_eq_true hts]; exact hv
      · cases h
    · cases h
theorem exec_S (hm : P.follows .mixedOrders = true) {call : CallF} (hc : CallS P A call) (fuel : Nat) : ∀ (c : Code) (st : St) (x : X) (st' : St), exec P call fuel c st = some (x, st') → CodeS P A c st x st' := by
  intro c
  induction c with
  | skip =>
    intro st x st' h
    simp only [exec, Option.some.injEq, Prod.mk.injEq] at h
    obtain ⟨rfl, rfl⟩ := h
    exact CodeS.nil fun Q a w h => wp_skip h
  | label l =>
    intro st x st' h
    simp only [exec, Option.some.injEq, Prod.mk.injEq] at h
    obtain ⟨rfl, rfl⟩ := h
    exact CodeS.nil fun Q a w h => wp_label h
  | exit id =>
    intro st x st' h
    simp only [exec, Option.some.injEq, Prod.mk.injEq] at h
    obtain ⟨rfl, rfl⟩ := h
    exact CodeS.nil fun Q a w h => wp_exit h
  | ret =>
    intro st x st' h
    simp only [exec, Option.some.injEq, Prod.mk.injEq] at h
    obtain ⟨rfl, rfl⟩ := h
    exact CodeS.nil fun Q a w h => wp_ret h
  | region id ops draw =>
    intro st x st' h
    cases draw
    · simp only [exec, nrm] at h
      split at h
      · rename_i st1 h1
        simp only [Option.some.injEq, Prod.mk.injEq] at h
        obtain ⟨rfl, rfl⟩ := h
        obtain ⟨e, s⟩ := runSeq_S hc (Q := fun _ _ _ => True) ops.toList 0 st st1 (by simp) h1
        refine ⟨e, s.mono fun h' D ρ a w Q hs hD hk => wp_region ?_⟩
        have := h' D ρ a w (fun a w => Q .normal a w) hs hD hk Q (fun _ _ h => h)
        rwa [Array.length_toList, ← List.range_eq_range'] at this
      · cases h
    · simp only [exec, nrm] at h
      split at h
      · rename_i st1 h1
        simp only [Option.some.injEq, Prod.mk.injEq] at h
        obtain ⟨rfl, rfl⟩ := h
        obtain ⟨e, s⟩ := runDraw_S hc h1
        refine ⟨e, s.mono fun h' D ρ a w Q hs hD hk => wp_region_any hm ?_⟩
        exact h' D ρ a _ (fun a w => Q .normal a w) hs.drew hD (fun ρ' a' w' k => hk ρ' a' w' k.undrew) Q (fun _ _ h => h)
      · cases h
  | seq a b iha ihb =>
    intro st x st' h
    simp only [exec] at h
    split at h
    · rename_i st1 h1
      exact CodeS.seq (iha _ _ _ h1) (ihb _ _ _ h)
    · rename_i hr
      obtain ⟨e, s⟩ := iha _ _ _ h
      refine ⟨e, s.mono fun h' D ρ ac w Q hs hD hk => wp_seq (h' D ρ ac w _ hs hD fun ρ1 a1 w1 h3 => ?_)⟩
      have := hk ρ1 a1 w1 h3
      cases x <;> first | exact absurd h (hr _) | exact this
  | cond c a b iha ihb =>
    intro st x st' h
    simp only [exec] at h
    split at h
    · rename_i y hy
      split at h
      · rename_i ts hb
        obtain ⟨e, s⟩ := iha _ _ _ h
        refine ⟨⟨e.nx, e.n, e.mem⟩, (Sound.bool (P := P) (A := A) hb).bind (Sound.like (s.mono fun h' hyt D ρ ac w Q hs hD hk => ?_) ⟨rfl, rfl⟩ ⟨rfl, rfl⟩)⟩
        subst hyt
        have he := (Looks.all st.env).ev hs.fr c _ hy
        exact wp_cond_true he.1 (h' D ρ ac w Q ⟨hs.fr, hs.size, hs.defers, hs.mem⟩ hD fun ρ' a' w' k => hk ρ' a' w' ⟨k.same, k.ok, k.kept, k.new⟩)
      · rename_i ts hb
        obtain ⟨e, s⟩ := ihb _ _ _ h
        refine ⟨⟨e.nx, e.n, e.mem⟩, (Sound.bool (P := P) (A := A) hb).bind (Sound.like (s.mono fun h' hyt D ρ ac w Q hs hD hk => ?_) ⟨rfl, rfl⟩ ⟨rfl, rfl⟩)⟩
        subst hyt
        have he := (Looks.all st.env).ev hs.fr c _ hy
        exact wp_cond_false he.1 (h' D ρ ac w Q ⟨hs.fr, hs.size, hs.defers, hs.mem⟩ hD fun ρ' a' w' k => hk ρ' a' w' ⟨k.same, k.ok, k.kept, k.new⟩)
    · cases h
  | block id c ih =>
    intro st x st' h
    simp only [exec] at h
    split at h
    · rename_i j st1 h1
      obtain ⟨e, s⟩ := ih _ _ _ h1
      cases hb : Nat.beq j id <;> simp only [hb, cond, Option.some.injEq, Prod.mk.injEq] at h
      · obtain ⟨rfl, rfl⟩ := h
        refine ⟨e, s.mono fun h' D ρ ac w Q hs hD hk => wp_block (h' D ρ ac w _ hs hD fun ρ1 a1 w1 h3 => ?_)⟩
        have := hk ρ1 a1 w1 h3
        show if j = id then _ else _
        rw [if_neg (Nat.ne_of_beq_eq_false hb)]
        exact this
      · obtain ⟨rfl, rfl⟩ := h
        refine ⟨e, s.mono fun h' D ρ ac w Q hs hD hk => wp_block (h' D ρ ac w _ hs hD fun ρ1 a1 w1 h3 => ?_)⟩
        have := hk ρ1 a1 w1 h3
        show if j = id then _ else _
        rw [if_pos (Nat.eq_of_beq_eq_true hb)]
        exact this
    · rename_i hr
      obtain ⟨e, s⟩ := ih _ _ _ h
      refine ⟨e, s.mono fun h' D ρ ac w Q hs hD hk => wp_block (h' D ρ ac w _ hs hD fun ρ1 a1 w1 h3 => ?_)⟩
      have := hk ρ1 a1 w1 h3
      cases x <;> first | exact absurd h (hr _ _) | exact this
  | loop c ih =>
    intro st x st' h
    simp only [exec] at h
    split at h
    · rename_i slots ids y vals out d r hp
      split at h
      · rename_i vs hvs
        split at h
        · rename_i sn hsn
          cases hb : outOK ids st.nx d out <;> simp only [hb, cond] at h
          · cases h
          · simp only [Option.some.injEq, Prod.mk.injEq] at h
            obtain ⟨rfl, rfl⟩ := h
            have hl := outLog_ok hsn hb
            obtain ⟨h1, h2, h3⟩ := memL_snap hsn
            refine ⟨⟨Nat.le_add_right _ _, rfl, _, rfl, hl.sub h2, rfl⟩, (Sound.pop hp (.lp c st.n vs sn st.nx)).mono fun k D ρ a w Q hs hD hk => ?_⟩
            refine k D ρ a w Q (fun t u hu => hs.fr t u trivial (look_spec hvs t u hu)) hs.size hs.defers (hs.mem.sub h2) hD fun ρ' a' w' hf hsz hdf ha => ?_
            have ha := ha.frame hs.mem h2 hl hD
            exact hk ρ' a' w' ⟨ha.same, ⟨fun t u _ hu => hf t u hu, hsz, hdf, ha.mem⟩, ha.kept, ha.new⟩
        · cases h
      · cases h
    · obtain ⟨e, s, _⟩ := loopN_S (fun st x st' h => ih st x st' h) fuel st x st' h
      exact ⟨e, s.mono fun h' D ρ ac w Q hs hD hk => wp_of_wpL (h' D ρ ac w Q hs hD hk)⟩
  | _ => intro st x st' h; cases h
end Rx
end Go.Proofs.YtedfdphapcanoaaGreatDoor
end

section
/- A run reckoned by the kernel: functions; the theorem that proofs use. No program. -/
set_option linter.unusedVariables false
set_option linter.unusedSimpArgs false
namespace Go.Proofs.YtedfdphapcanoaaGreatDoor
open Go.RowKit Go.Lib
namespace Rx
variable {P : Program} {A : Amb}

def resF (tmps : Array Value) : ResultVar → Sem Value
  | .tmp t => pure (tmps.getD t undef)
  | .cell p t => do loadVar t (← asAddr (tmps.getD p undef))
theorem resA_run {D : Nat → Prop} {ρ : Nm} {e : Env} {m : Mem} {a : Act} {w : World} (hf : FrOK D ρ (fun _ => True) e a) (hm : MemOK P A D ρ m w) : ∀ (rs : List ResultVar) (vs : List Value), resA P e m rs = some vs → vs.all notTuple = true →
    (rs.mapM (resF a.tmps)).run P w = .ok (vs.map (ren ρ)) w ∧ ∀ v ∈ vs, Fit D v
  | [], vs, h, _ => by
    simp only [resA, Option.some.injEq] at h
    subst h
    exact ⟨rfl, fun _ h => by cases h⟩
  | .tmp t :: rs, vs, h, hn => by
    simp only [resA] at h
    split at h
    · rename_i v hv
      split at h
      · rename_i us hus
        simp only [Option.some.injEq] at h
        subst h
        simp only [List.all_cons, Bool.and_eq_true] at hn
        obtain ⟨h1, h2⟩ := resA_run hf hm rs us hus hn.2
        obtain ⟨h3, h4⟩ := hf t v trivial hv
        refine ⟨?_, fun u hu => ?_⟩
        · rw [List.mapM_cons]
          have : (resF a.tmps (.tmp t)).run P w = .ok (ren ρ v) w := by
            have := eval_tmp h3
            simp only [Act.eval] at this
            simp only [resF]
            rw [this]; rfl
          rw [run_bind_ok this, run_bind_ok h1]
          rfl
        · rcases List.mem_cons.1 hu with rfl | hu
          · exact h4
          · exact h2 u hu
      · cases h
    · cases h
  | .cell p t :: rs, vs, h, hn => by
    simp only [resA] at h
    split at h
    · rename_i q hq
      split at h
      · rename_i v hv
        split at h
        · rename_i us hus
          simp only [Option.some.injEq] at h
          subst h
          simp only [List.all_cons, Bool.and_eq_true] at hn
          obtain ⟨h1, h2⟩ := resA_run hf hm rs us hus hn.2
          obtain ⟨ad, rfl, h5, h6, _⟩ := loadA_run hm hv
          obtain ⟨h3, h4⟩ := hf p _ trivial hq
          refine ⟨?_, fun u hu => ?_⟩
          · rw [List.mapM_cons]
            have h7 : (asAddr (a.tmps.getD p undef) : Sem Addr).run P w = .ok (renA ρ ad) w := by
              have := eval_tmp h3
              simp only [Act.eval] at this
              rw [this]; rfl
            have h8 : (resF a.tmps (.cell p t)).run P w = .ok (ren ρ v) w := by
              simp only [resF]
              rw [run_bind_ok h7]; exact h5
            rw [run_bind_ok h8, run_bind_ok h1]
            rfl
          · rcases List.mem_cons.1 hu with rfl | hu
            · exact h6
            · exact h2 u hu
        · cases h
      · cases h
    · cases h
theorem ren_one {ρ : Nm} {vs : List Value} (h : vs.all notTuple = true) : (if hs : (vs.map (ren ρ)).toArray.size = 1 then (vs.map (ren ρ)).toArray[0] else .tuple (vs.map (ren ρ)).toArray) = ren ρ (one vs) := by
  match vs, h with
  | [], _ => rfl
  | [v], _ => rfl
  | a :: b :: c, h =>
    have : (a :: b :: c).map (ren ρ) = (a :: b :: c).map (ren1 ρ) := List.map_congr_left fun v hv => ren_notTuple (List.all_eq_true.1 h v hv)
    rw [dif_neg (by simp)]
    simp only [one, ren]
    rw [this]
theorem results_run {fn : Func} {D : Nat → Prop} {ρ : Nm} {e : Env} {m : Mem} {a : Act} {w : World} (hf : FrOK D ρ (fun _ => True) e a) (hm : MemOK P A D ρ m w) {vs : List Value} (h : resA P e m fn.results.toList = some vs) (hn : vs.all notTuple = true) :
    (results fn a.tmps).run P w = .ok (ren ρ (one vs)) w ∧ Fit D (one vs) := by
  obtain ⟨h1, h2⟩ := resA_run hf hm _ _ h hn
  refine ⟨?_, Fit.one fun v hv => ⟨h2 v hv, List.all_eq_true.1 hn v hv⟩⟩
  have h3 : (fn.results.mapM (resF a.tmps)).run P w = .ok (vs.map (ren ρ)).toArray w := by
    rw [Array.mapM_eq_mapM_toList, Sem.run_map, h1]
    rfl
  have h4 : results fn a.tmps = (fn.results.mapM (resF a.tmps) >>= fun vs => pure (if h : vs.size = 1 then vs[0] else .tuple vs)) := by
    unfold results
    rfl
  rw [h4, run_bind_ok h3, ← ren_one hn]
  rfl
theorem maxN_eq (a b : Nat) : maxN a b = max a b := by
  unfold maxN
  cases h : Nat.ble a b <;> simp only [cond]
  · have := Nat.not_le_of_not_ble_eq_true (by rw [h]; exact Bool.false_ne_true); omega
  · have := Nat.le_of_ble_eq_true h; omega
theorem callN_S (hm : P.follows .mixedOrders = true) : ∀ k, CallS P A (callN P k)
  | 0 => fun f args m nx ts out h => by cases h
  | k + 1 => fun f args m nx ts out h => by
    simp only [callN] at h
    split at h
    · rename_i fn hfn
      split at h
      · rename_i c hbody
        split at h
        · cases h
        · rename_i x st hne hx
          split at h
          · rename_i vs hvs
            cases hb : vs.all notTuple <;> simp only [hb, cond] at h
            · cases h
            · simp only [Option.some.injEq] at h
              subst h
              obtain ⟨e, s⟩ := exec_S (A := A) hm (callN_S hm k) k c _ x st hx
              obtain ⟨l, e1, e2, e3⟩ := e.mem
              have e3 : st.log = l := by rw [e3]; simp
              refine ⟨e.nx, by rw [e3]; exact e2, rfl, s.mono fun h' D ρ w hmem hargs hD => ?_⟩
              refine calls_of_wp hfn hbody (h' D ρ _ w _ ⟨fun t u _ hu => ?_, ?_, rfl, hmem⟩ hD fun ρ' a' w' k' => ?_)
              · simp only [env0] at hu
                split at hu
                · rename_i v hv
                  simp only [Option.some.injEq] at hu
                  subst hu
                  refine ⟨?_, hargs _ (List.mem_of_getElem? hv)⟩
                  have hlt := (List.getElem?_eq_some_iff.1 hv).1
                  simp [Array.getElem?_append, hlt, (List.getElem?_eq_some_iff.1 hv).2]
                · rename_i hv
                  cases hb2 : Nat.blt t fn.ntmps <;> simp only [hb2, cond] at hu
                  · cases hu
                  · simp only [Option.some.injEq] at hu
                    subst hu
                    refine ⟨?_, Fit.real rfl⟩
                    have h1 : args.length ≤ t := List.getElem?_eq_none_iff.1 hv
                    have h2 : t < fn.ntmps := by simpa [Nat.blt_eq] using hb2
                    rw [Array.getElem?_append_right (by simpa using h1)]
                    simp only [List.size_toArray, List.length_map]
                    rw [Array.getElem?_replicate, if_pos (by omega)]
                    rfl
              · simp [maxN_eq]; omega
              · have hr := results_run k'.ok.fr k'.ok.mem hvs hb
                have hend : bodyPost P fn (fun e w' => ∃ ρ', e = .returned (ren ρ' (one vs)) ∧ Aft P A D ρ m nx w (one vs) st.log st.nx ρ' w') .normal a' w' := by
                  refine ⟨k'.ok.defers, _, hr.1, ρ', rfl, k'.same, hr.2, ?_, k'.kept, fun i b h1 h2 h3 => k'.new i b h1 h2 (by rw [e1, ← e3]; exact h3)⟩
                  have := k'.ok.mem
                  rw [e1, ← e3] at this
                  exact this
                cases x with
                | nrm => exact hend
                | ret => exact hend
                | ex id => exact (hne id rfl).elim
          · cases h
        · cases h
      · cases h
    · cases h

/-- a question with its answer, and why it is right -/
structure Ev (P : Program) (A : Amb) where
  at_ : Nat
  ans : Ans
  key : Key
  ok : okP P A ans key
def asOf (evs : List (Ev P A)) : List (Nat × Ans) := evs.map fun e => (e.at_, e.ans)
def keysOf (evs : List (Ev P A)) : List Key := evs.map (·.key)
theorem ok_all {evs : List (Ev P A)} : ∀ {l : List ((Nat × Ans) × Key)}, asOf evs = l.map (·.1) → keysOf evs = l.map (·.2) → ∀ p ∈ l, okP P A p.1.2 p.2 := by
  induction evs with
  | nil => intro l h1 _ p hp; cases l with
    | nil => cases hp
    | cons x l => cases h1
  | cons e evs ih => intro l h1 h2 p hp; cases l with
    | nil => cases hp
    | cons x l =>
      simp only [asOf, keysOf, List.map_cons, List.cons.injEq] at h1 h2
      rcases List.mem_cons.1 hp with rfl | hp
      · rw [← h1.1, ← h2.1]; exact e.ok
      · exact ih h1.2 h2.2 p hp
def yes (n : Nat) {b : Bool} (h : b = true) : Ev P A := ⟨n, .br true, .b b, h⟩
def no (n : Nat) {b : Bool} (h : b = false) : Ev P A := ⟨n, .br false, .b b, h⟩
def gyes (n : Nat) {b : Bool} (h : b = true) : Ev P A := ⟨n, .gd true, .b b, h⟩
def gno (n : Nat) {b : Bool} (h : b = false) : Ev P A := ⟨n, .gd false, .b b, h⟩
def does (n : Nat) {f : FuncId} {args : List Value} {v : Value} (h : ∀ W, A.S W → Calls P f args.toArray W (Ret v W)) : Ev P A := ⟨n, .call v, .c f args, h⟩
def reads (n : Nat) (ids : List Nat) {f : FuncId} {args : List Value} {sn : List (Nat × Blk)} {v : Value} (h : ∀ (ρ : Nm) (W : World), A.S W → (∀ e ∈ sn, Lies ρ W (ρ e.1).1 e.2.1 e.2.2.1 (P.cellsOf e.2.2.1) (ρ e.1).2 e.2.2.2) → Calls P f (args.map (ren ρ)).toArray W (Ret v W)) : Ev P A := ⟨n, .callR ids v, .cr f args sn, h⟩
def gives (n : Nat) {s : Sem Next} {v : Value} (h : ∀ W, A.S W → s.run P W = .ok (.value v) W) : Ev P A := ⟨n, .op v, .s s, h⟩
def is (n : Nat) {x y : Value} (h : x = y) : Ev P A := ⟨n, .eq y, .v x, h⟩
def isT (n : Nat) {b : Bool} (h : b = true) : Ev P A := is n (x := .bool b) (y := .bool true) (congrArg _ h)
def isF (n : Nat) {b : Bool} (h : b = false) : Ev P A := is n (x := .bool b) (y := .bool false) (congrArg _ h)
/-- what a run says: the value, what of the answers is left, the questions -/
def res (P : Program) (f : FuncId) (args : List Value) (qs : List (Nat × Ans)) : Option (Value × List (Nat × Ans) × List Key) :=
  match go P f args qs with
  | some ⟨v, _, _, ts⟩ => some (v, ts.qs, ts.ks)
  | none => none
/-- THE THEOREM: what the kernel reckons of a way is what the call does. -/
theorem run {w0 : World} {f : FuncId} {args : List Value} {v : Value} (evs : List (Ev P (Amb.of w0))) (h : res P f args (asOf evs) = some (v, [], (keysOf evs).reverse) := by kernel_rfl) (hm : P.follows .mixedOrders = true := by kernel_rfl) (ha : args.all real = true := by kernel_rfl) (hv : real v = true := by kernel_rfl) :
    Calls P f args.toArray w0 (Ret v w0) := by
  unfold res at h
  split at h
  · rename_i v' l nx ts hgo
    simp only [Option.some.injEq, Prod.mk.injEq] at h
    obtain ⟨rfl, h1, h2⟩ := h
    obtain ⟨_, _, _, tr, ⟨t1, t2⟩, hs⟩ := callN_S (A := Amb.of w0) hm fuel0 f args _ 0 ⟨0, asOf evs, []⟩ _ hgo
    have t1 : asOf evs = tr.map (·.1) := by rw [h1] at t1; simpa using t1
    have t2 : keysOf evs = tr.map (·.2) := by
      rw [h2] at t2
      have := congrArg List.reverse t2
      simpa using this
    have hc := hs (ok_all t1 t2) (fun _ => False) (fun _ => (0, 0)) w0 ⟨Below.refl _ _, fun {i b} h => (by cases h), fun {i cs T r} h => (by cases h), fun {i cs T r} h => (by cases h), fun {i j b c} h => (by cases h)⟩ (fun u hu => Fit.real (List.all_eq_true.1 ha u hu)) (fun _ h => h.elim)
    rw [ren_list_real ha] at hc
    refine hc.mono ?_
    rintro e w' ⟨ρ', rfl, k⟩
    exact ⟨by rw [ren_real hv], k.mem.s⟩
  · cases h
end Rx
end Go.Proofs.YtedfdphapcanoaaGreatDoor
end
