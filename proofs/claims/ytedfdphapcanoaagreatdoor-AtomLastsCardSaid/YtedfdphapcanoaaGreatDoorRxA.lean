/- A run reckoned by the kernel: code, calls, and what it is good for. No program. -/
import Derived.Test.YtedfdphapcanoaaGreatDoorRx9
set_option linter.unusedVariables false
set_option linter.unusedSimpArgs false
namespace Go.Proofs.YtedfdphapcanoaaGreatDoor
open Go.RowKit Go.Lib
namespace Rx
variable {P : Program} {A : Amb}

/-- the code c, run from st, is left by x at st' -/
def CodeS (P : Program) (A : Amb) (c : Code) (st : St) (x : X) (st' : St) : Prop :=
  Ext st st' ∧ Sound P A st.ts st'.ts (∀ (D : Nat → Prop) (ρ : Nm) (a : Act) (w : World) (Q : Exit → Act → World → Prop), StOK P A D ρ st a w → (∀ i, D i → ¬ (st.nx ≤ i ∧ i < st'.nx)) →
    (∀ ρ' a' w', StAft P A D ρ st w st' ρ' a' w' → Q (exitOf x) a' w') → c.wp P Q a w)
theorem CodeS.nil {c : Code} {st : St} {x : X} (h : ∀ (Q : Exit → Act → World → Prop) a w, Q (exitOf x) a w → c.wp P Q a w) : CodeS P A c st x st :=
  ⟨Ext.refl _, Sound.refl fun D ρ a w Q hs hD hk => h Q a w (hk ρ a w (StAft.refl hs))⟩
theorem CodeS.seq {a b : Code} {s0 s1 s2 : St} {x : X} (h : CodeS P A a s0 .nrm s1) (k : CodeS P A b s1 x s2) : CodeS P A (.seq a b) s0 x s2 := by
  obtain ⟨h1, h2⟩ := h
  obtain ⟨k1, k2⟩ := k
  refine ⟨h1.trans k1, h2.bind (k2.mono fun k' h' D ρ ac w Q hs hD hk => wp_seq (h' D ρ ac w _ hs (fun i hi => fun ⟨x, y⟩ => hD i hi ⟨x, by have := k1.nx; omega⟩) fun ρ1 a1 w1 h3 => ?_))⟩
  exact k' _ ρ1 a1 w1 Q h3.ok (ext_disj hD h1.nx) fun ρ2 a2 w2 h4 => hk ρ2 a2 w2 (StAft.trans h1 k1 hs.mem hD h3 h4)
theorem StOK.drew {D : Nat → Prop} {ρ : Nm} {st : St} {a : Act} {w : World} (h : StOK P A D ρ st a w) : StOK P A D ρ st a { w with drawn := w.drawn + 1 } :=
  ⟨h.fr, h.size, h.defers, h.mem.kept (Kept.drew (fun _ => False) w) (fun _ k => k.elim) (fun _ _ _ k => k)⟩
theorem StAft.undrew {D : Nat → Prop} {ρ ρ' : Nm} {st st' : St} {a' : Act} {w w' : World} (h : StAft P A D ρ st { w with drawn := w.drawn + 1 } st' ρ' a' w') : StAft P A D ρ st w st' ρ' a' w' :=
  ⟨h.same, h.ok, Kept.trans (Kept.drew (fun _ => False) w) h.kept (fun _ _ k => k.elim) (fun _ _ k => k), h.new⟩

/-- a loop, from the head of a round on -/
def wpL (P : Program) (c : Code) (Q : Exit → Act → World → Prop) (a : Act) (w : World) : Prop :=
  ∀ (b : Frame) (k : List Item) (cs : List Frame), ∃ e a' w', Q e a' w' ∧ Arrives P (lone (b.at a (.code c :: .inLoop c :: k)) cs w) b k cs e a' w'
theorem wpL_step {c : Code} {Q : Exit → Act → World → Prop} {a : Act} {w : World} (h : c.wp P (Exit.then (wpL P c Q) Q) a w) : wpL P c Q a w := by
  intro b k cs
  obtain ⟨e, a₁, w₁, hq, harr⟩ := h b (.inLoop c :: k) cs
  cases e with
  | normal =>
    obtain ⟨e₂, a₂, w₂, hq₂, harr₂⟩ := hq b k cs
    exact ⟨e₂, a₂, w₂, hq₂, .of_steps (Steps.trans harr (.one step_inLoop)) harr₂⟩
  | exit id => exact ⟨_, a₁, w₁, hq, .pass (x := .inLoop c) rfl (fun _ _ => .inl (by simp)) harr⟩
  | goto l => exact ⟨_, a₁, w₁, hq, .pass (x := .inLoop c) rfl (fun _ _ => .inl (by simp)) harr⟩
  | ret => exact ⟨_, a₁, w₁, hq, .pass (x := .inLoop c) rfl (fun _ _ => .inl (by simp)) harr⟩
  | panic ch => exact ⟨_, a₁, w₁, hq, .pass (x := .inLoop c) rfl (fun _ _ => .inl (by simp)) harr⟩
  | outgrown => exact ⟨_, a₁, w₁, hq, .pass (x := .inLoop c) rfl (fun _ _ => .inl (by simp)) harr⟩
theorem wp_of_wpL {c : Code} {Q : Exit → Act → World → Prop} {a : Act} {w : World} (h : wpL P c Q a w) : (Code.loop c).wp P Q a w := by
  intro b k cs
  obtain ⟨e, a', w', hq, harr⟩ := h b k cs
  exact ⟨e, a', w', hq, .of_steps (.one step_loop) harr⟩
theorem loopN_S {c : Code} {f : St → Option (X × St)} (hf : ∀ st x st', f st = some (x, st') → CodeS P A c st x st') : ∀ (n : Nat) (st : St) (x : X) (st' : St), loopN f n st = some (x, st') →
    Ext st st' ∧ Sound P A st.ts st'.ts (∀ (D : Nat → Prop) (ρ : Nm) (a : Act) (w : World) (Q : Exit → Act → World → Prop), StOK P A D ρ st a w → (∀ i, D i → ¬ (st.nx ≤ i ∧ i < st'.nx)) →
      (∀ ρ' a' w', StAft P A D ρ st w st' ρ' a' w' → Q (exitOf x) a' w') → wpL P c Q a w) ∧ x ≠ .nrm
  | 0, _, _, _, h => by cases h
  | n + 1, st, x, st', h => by
    simp only [loopN] at h
    split at h
    · rename_i st1 h1
      obtain ⟨e1, s1⟩ := hf _ _ _ h1
      obtain ⟨e2, s2, hx⟩ := loopN_S hf n st1 x st' h
      refine ⟨e1.trans e2, s1.bind (s2.mono fun k' h' D ρ a w Q hs hD hk => wpL_step (h' D ρ a w _ hs (fun i hi => fun ⟨x, y⟩ => hD i hi ⟨x, by have := e2.nx; omega⟩) fun ρ1 a1 w1 h3 => ?_)), hx⟩
      exact k' _ ρ1 a1 w1 Q h3.ok (ext_disj hD e1.nx) fun ρ2 a2 w2 h4 => hk ρ2 a2 w2 (StAft.trans e1 e2 hs.mem hD h3 h4)
    · rename_i hr
      have hx : x ≠ .nrm := fun e => by subst e; exact hr _ h
      obtain ⟨e1, s1⟩ := hf _ _ _ h
      refine ⟨e1, s1.mono fun h' D ρ a w Q hs hD hk => wpL_step (h' D ρ a w _ hs hD fun ρ1 a1 w1 h3 => ?_), hx⟩
      have := hk ρ1 a1 w1 h3
      cases x <;> first | exact absurd rfl hx | exact this
theorem look_spec {e : Env} : ∀ {l : List Nat} {vs : List (Nat × Value)}, look e l = some vs → ∀ t u, envL vs t = some u → e t = some u
  | [], vs, h, t, u, hu => by
    simp only [look, Option.some.injEq] at h
    subst h; cases hu
  | s :: l, vs, h, t, u, hu => by
    simp only [look] at h
    split at h
    · rename_i v hv
      split at h
      · rename_i r hr
        simp only [Option.some.injEq] at h
        subst h
        simp only [envL, Env.put] at hu
        cases hts : Nat.beq t s <;> simp only [hts, cond] at hu
        · exact look_spec hr t u hu
        · simp only [Option.some.injEq] at hu
          subst hu
          rw [Nat.eq_of_beq_eq_true hts]; exact hv
      · cases h
    · cases h
theorem exec_S (hm : P.follows .mixedOrders = true) {call : CallF} (hc : CallS P A call) (fuel : Nat) : ∀ (c : Code) (st : St) (x : X) (st' : St), exec P call fuel c st = some (x, st') → CodeS P A c st x st' := by
  intro c
  induction c with
  | skip =>
    intro st x st' h
    simp only [exec, Option.some.injEq, Prod.mk.injEq] at h
    obtain ⟨rfl, rfl⟩ := h
    exact CodeS.nil fun Q a w h => wp_skip h
  | label l =>
    intro st x st' h
    simp only [exec, Option.some.injEq, Prod.mk.injEq] at h
    obtain ⟨rfl, rfl⟩ := h
    exact CodeS.nil fun Q a w h => wp_label h
  | exit id =>
    intro st x st' h
    simp only [exec, Option.some.injEq, Prod.mk.injEq] at h
    obtain ⟨rfl, rfl⟩ := h
    exact CodeS.nil fun Q a w h => wp_exit h
  | ret =>
    intro st x st' h
    simp only [exec, Option.some.injEq, Prod.mk.injEq] at h
    obtain ⟨rfl, rfl⟩ := h
    exact CodeS.nil fun Q a w h => wp_ret h
  | region id ops draw =>
    intro st x st' h
    cases draw
    · simp only [exec, nrm] at h
      split at h
      · rename_i st1 h1
        simp only [Option.some.injEq, Prod.mk.injEq] at h
        obtain ⟨rfl, rfl⟩ := h
        obtain ⟨e, s⟩ := runSeq_S hc (Q := fun _ _ _ => True) ops.toList 0 st st1 (by simp) h1
        refine ⟨e, s.mono fun h' D ρ a w Q hs hD hk => wp_region ?_⟩
        have := h' D ρ a w (fun a w => Q .normal a w) hs hD hk Q (fun _ _ h => h)
        rwa [Array.length_toList, ← List.range_eq_range'] at this
      · cases h
    · simp only [exec, nrm] at h
      split at h
      · rename_i st1 h1
        simp only [Option.some.injEq, Prod.mk.injEq] at h
        obtain ⟨rfl, rfl⟩ := h
        obtain ⟨e, s⟩ := runDraw_S hc h1
        refine ⟨e, s.mono fun h' D ρ a w Q hs hD hk => wp_region_any hm ?_⟩
        exact h' D ρ a _ (fun a w => Q .normal a w) hs.drew hD (fun ρ' a' w' k => hk ρ' a' w' k.undrew) Q (fun _ _ h => h)
      · cases h
  | seq a b iha ihb =>
    intro st x st' h
    simp only [exec] at h
    split at h
    · rename_i st1 h1
      exact CodeS.seq (iha _ _ _ h1) (ihb _ _ _ h)
    · rename_i hr
      obtain ⟨e, s⟩ := iha _ _ _ h
      refine ⟨e, s.mono fun h' D ρ ac w Q hs hD hk => wp_seq (h' D ρ ac w _ hs hD fun ρ1 a1 w1 h3 => ?_)⟩
      have := hk ρ1 a1 w1 h3
      cases x <;> first | exact absurd h (hr _) | exact this
  | cond c a b iha ihb =>
    intro st x st' h
    simp only [exec] at h
    split at h
    · rename_i y hy
      split at h
      · rename_i ts hb
        obtain ⟨e, s⟩ := iha _ _ _ h
        refine ⟨⟨e.nx, e.n, e.mem⟩, (Sound.bool (P := P) (A := A) hb).bind (Sound.like (s.mono fun h' hyt D ρ ac w Q hs hD hk => ?_) ⟨rfl, rfl⟩ ⟨rfl, rfl⟩)⟩
        subst hyt
        have he := (Looks.all st.env).ev hs.fr c _ hy
        exact wp_cond_true he.1 (h' D ρ ac w Q ⟨hs.fr, hs.size, hs.defers, hs.mem⟩ hD fun ρ' a' w' k => hk ρ' a' w' ⟨k.same, k.ok, k.kept, k.new⟩)
      · rename_i ts hb
        obtain ⟨e, s⟩ := ihb _ _ _ h
        refine ⟨⟨e.nx, e.n, e.mem⟩, (Sound.bool (P := P) (A := A) hb).bind (Sound.like (s.mono fun h' hyt D ρ ac w Q hs hD hk => ?_) ⟨rfl, rfl⟩ ⟨rfl, rfl⟩)⟩
        subst hyt
        have he := (Looks.all st.env).ev hs.fr c _ hy
        exact wp_cond_false he.1 (h' D ρ ac w Q ⟨hs.fr, hs.size, hs.defers, hs.mem⟩ hD fun ρ' a' w' k => hk ρ' a' w' ⟨k.same, k.ok, k.kept, k.new⟩)
    · cases h
  | block id c ih =>
    intro st x st' h
    simp only [exec] at h
    split at h
    · rename_i j st1 h1
      obtain ⟨e, s⟩ := ih _ _ _ h1
      cases hb : Nat.beq j id <;> simp only [hb, cond, Option.some.injEq, Prod.mk.injEq] at h
      · obtain ⟨rfl, rfl⟩ := h
        refine ⟨e, s.mono fun h' D ρ ac w Q hs hD hk => wp_block (h' D ρ ac w _ hs hD fun ρ1 a1 w1 h3 => ?_)⟩
        have := hk ρ1 a1 w1 h3
        show if j = id then _ else _
        rw [if_neg (Nat.ne_of_beq_eq_false hb)]
        exact this
      · obtain ⟨rfl, rfl⟩ := h
        refine ⟨e, s.mono fun h' D ρ ac w Q hs hD hk => wp_block (h' D ρ ac w _ hs hD fun ρ1 a1 w1 h3 => ?_)⟩
        have := hk ρ1 a1 w1 h3
        show if j = id then _ else _
        rw [if_pos (Nat.eq_of_beq_eq_true hb)]
        exact this
    · rename_i hr
      obtain ⟨e, s⟩ := ih _ _ _ h
      refine ⟨e, s.mono fun h' D ρ ac w Q hs hD hk => wp_block (h' D ρ ac w _ hs hD fun ρ1 a1 w1 h3 => ?_)⟩
      have := hk ρ1 a1 w1 h3
      cases x <;> first | exact absurd h (hr _ _) | exact this
  | loop c ih =>
    intro st x st' h
    simp only [exec] at h
    split at h
    · rename_i slots ids y vals out d r hp
      split at h
      · rename_i vs hvs
        split at h
        · rename_i sn hsn
          cases hb : outOK ids st.nx d out <;> simp only [hb, cond] at h
          · cases h
          · simp only [Option.some.injEq, Prod.mk.injEq] at h
            obtain ⟨rfl, rfl⟩ := h
            have hl := outLog_ok hsn hb
            obtain ⟨h1, h2, h3⟩ := memL_snap hsn
            refine ⟨⟨Nat.le_add_right _ _, rfl, _, rfl, hl.sub h2, rfl⟩, (Sound.pop hp (.lp c st.n vs sn st.nx)).mono fun k D ρ a w Q hs hD hk => ?_⟩
            refine k D ρ a w Q (fun t u hu => hs.fr t u trivial (look_spec hvs t u hu)) hs.size hs.defers (hs.mem.sub h2) hD fun ρ' a' w' hf hsz hdf ha => ?_
            have ha := ha.frame hs.mem h2 hl hD
            exact hk ρ' a' w' ⟨ha.same, ⟨fun t u _ hu => hf t u hu, hsz, hdf, ha.mem⟩, ha.kept, ha.new⟩
        · cases h
      · cases h
    · obtain ⟨e, s, _⟩ := loopN_S (fun st x st' h => ih st x st' h) fuel st x st' h
      exact ⟨e, s.mono fun h' D ρ ac w Q hs hD hk => wp_of_wpL (h' D ρ ac w Q hs hD hk)⟩
  | _ => intro st x st' h; cases h
end Rx
end Go.Proofs.YtedfdphapcanoaaGreatDoor
