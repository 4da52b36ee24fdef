/- Several texts of this claim, one behind the other. -/
import Derived.Test.YtedfdphapcanoaaGreatDoorM6
import Derived.Orders
import Derived.RegionTactic

section
/- A run reckoned by the kernel: regions that draw their order. No program. -/
set_option linter.unusedVariables false
set_option linter.unusedSimpArgs false
namespace Go.Proofs.YtedfdphapcanoaaGreatDoor
open Go.RowKit Go.Lib
namespace Rx
variable {P : Program} {A : Amb}

theorem beside_mem {b : Nat} : ∀ (l : List Seg) (j : Nat) (x : Seg), x ∈ beside b j l ↔ ∃ k, l[k]? = some x ∧ Nat.testBit b (j + k) = false
  | [], j, x => by simp [beside]
  | y :: l, j, x => by
    simp only [beside]
    cases hb : Nat.testBit b j <;> simp only [cond]
    · rw [List.mem_cons, beside_mem l (j + 1) x]
      constructor
      · rintro (rfl | ⟨k, h1, h2⟩)
        · exact ⟨0, rfl, hb⟩
        · exact ⟨k + 1, by simpa using h1, by rw [← h2]; congr 1; omega⟩
      · rintro ⟨k, h1, h2⟩
        cases k with
        | zero => left; simpa using h1.symm
        | succ k => right; exact ⟨k, by simpa using h1, by rw [← h2]; congr 1; omega⟩
    · rw [beside_mem l (j + 1) x]
      constructor
      · rintro ⟨k, h1, h2⟩
        exact ⟨k + 1, by simpa using h1, by rw [← h2]; congr 1; omega⟩
      · rintro ⟨k, h1, h2⟩
        cases k with
        | zero => simp only [Nat.add_zero] at h2; rw [hb] at h2; cases h2
        | succ k => exact ⟨k, by simpa using h1, by rw [← h2]; congr 1; omega⟩
theorem mask_spec {bs : List Nat} {j : Nat} : ∀ {es : List Edge}, Nat.testBit (maskOf bs es) j = true → ∃ e ∈ es, Region.binds .any e = true ∧ (e.on = j ∨ Nat.testBit (bs.getD e.on 0) j = true)
  | [], h => by simp [maskOf] at h
  | e :: es, h => by
    simp only [maskOf] at h
    cases hb : Region.binds .any e <;> simp only [hb, cond] at h
    · obtain ⟨x, h1, h2⟩ := mask_spec h
      exact ⟨x, by simp [h1], h2⟩
    · rw [Nat.testBit_or, Nat.testBit_or, Bool.or_eq_true, Bool.or_eq_true] at h
      rcases h with (h | h) | h
      · exact ⟨e, by simp, hb, Or.inl (by rw [Nat.testBit_two_pow] at h; simpa using h)⟩
      · exact ⟨e, by simp, hb, Or.inr h⟩
      · obtain ⟨x, h1, h2⟩ := mask_spec h
        exact ⟨x, by simp [h1], h2⟩
theorem early_spec {i : Nat} : ∀ {es : List Edge}, early i es = true → ∀ e ∈ es, Region.binds .any e = true → e.on < i
  | [], _, e, h, _ => by cases h
  | x :: es, h, e, he, hb => by
    simp only [early] at h
    rcases List.mem_cons.1 he with rfl | he
    · rw [hb] at h
      simp only [cond, Bool.and_eq_true] at h
      simpa [Nat.blt_eq] using h.1
    · cases hx : Region.binds .any x <;> simp only [hx, cond] at h
      · exact early_spec h e he hb
      · simp only [Bool.and_eq_true] at h
        exact early_spec h.2 e he hb

/-- what a reckoning of such a region consists of -/
structure Dat (P : Program) (call : CallF) (ops : Array Oper) (lo n : Nat) (O : Nat → Oper) (s : Nat → St) (L : Nat → Log) (B : Nat → Nat) (G : Nat → Seg) : Prop where
  o : ∀ i, lo ≤ i → i < n → ops.toList[i]? = some (O i)
  b : ∀ i, lo ≤ i → i < n → B i = maskOf ((List.range i).map B) (O i).after.toList
  g : ∀ i, lo ≤ i → i < n → G i = ⟨O i, (L i).map (·.1), ((L i).map (·.1)).filter (fun x => !(Nat.ble (s i).nx x && Nat.blt x (s (i + 1)).nx)), readsOf (s i).env (O i).op⟩
  e : ∀ i, lo ≤ i → i < n → early i (O i).after.toList = true
  a : ∀ i, lo ≤ i → i < n → (beside (B i) 0 ((List.range i).map G)).all (fun x => x.o.apart ops (O i)) = true
  r : ∀ i, lo ≤ i → i < n → runOp P call ops (O i) (restr (O i) (s i).env) (seesOf (beside (B i) 0 ((List.range i).map G)) (G i).r (s i).mem) (s i) = some (L i, s (i + 1))
  c : ∀ i, lo ≤ i → i < n → clear (beside (B i) 0 ((List.range i).map G)) (G i).w = true
theorem range_map_succ {α : Type} {f : Nat → α} {l : List α} {x : α} {i : Nat} (hl : l.length = i) (h : l ++ [x] = (List.range (i + 1)).map f) : l = (List.range i).map f ∧ f i = x := by
  rw [List.range_succ, List.map_append] at h
  obtain ⟨h1, h2⟩ := List.append_inj h (by simp [hl])
  exact ⟨h1, by simpa using h2.symm⟩
theorem dat_of {call : CallF} {ops : Array Oper} : ∀ (os : List Oper) (bs : List Nat) (segs : List Seg) (st st' : St), bs.length = segs.length → ops.toList.drop segs.length = os → runDraw P call ops os bs segs st = some st' →
    ∃ O s L B G, Dat P call ops segs.length ops.size O s L B G ∧ s segs.length = st ∧ s ops.size = st' ∧ bs = (List.range segs.length).map B ∧ segs = (List.range segs.length).map G
  | [], bs, segs, st, st', hb, hd, h => by
    simp only [runDraw, Option.some.injEq] at h
    subst h
    have hn : ops.size ≤ segs.length := by
      have := congrArg List.length hd
      simp at this; omega
    refine ⟨fun _ => default, fun _ => st, fun _ => [], fun i => bs.getD i 0, fun i => segs.getD i ⟨default, [], [], none⟩, ⟨?_, ?_, ?_, ?_, ?_, ?_, ?_⟩, rfl, rfl, ?_, ?_⟩
    iterate 7 (intro i h1 h2; omega)
    · apply List.ext_getElem <;> simp [hb]
      intro i h1; rw [List.getElem?_eq_getElem (by omega)]; rfl
    · apply List.ext_getElem <;> simp
      intro i h1; rw [List.getElem?_eq_getElem (by omega)]; rfl
  | o :: os, bs, segs, st, st', hb, hd, h => by
    simp only [runDraw] at h
    cases hc1 : (early segs.length o.after.toList && (beside (maskOf bs o.after.toList) 0 segs).all fun s => s.o.apart ops o) <;> simp only [hc1, cond] at h
    · cases h
    · split at h
      · rename_i l st1 hr
        cases hc2 : clear (beside (maskOf bs o.after.toList) 0 segs) ((l.map (·.1)).filter fun x => !(Nat.ble st.nx x && Nat.blt x st1.nx)) <;> simp only [hc2, cond] at h
        · cases h
        · have ho : ops.toList[segs.length]? = some o := by
            have : (ops.toList.drop segs.length)[0]? = some o := by rw [hd]; rfl
            simpa using this
          have hlt : segs.length < ops.size := by
            have := (List.getElem?_eq_some_iff.1 ho).1
            simpa using this
          obtain ⟨O, s, L, B, G, hD, h1, h2, h3, h4⟩ := dat_of os (bs ++ [maskOf bs o.after.toList]) (segs ++ [⟨o, l.map (·.1), (l.map (·.1)).filter fun x => !(Nat.ble st.nx x && Nat.blt x st1.nx), readsOf st.env o.op⟩]) st1 st' (by simp [hb]) (by
            rw [List.length_append, List.length_singleton, ← List.drop_drop, hd]; rfl) h
          have hlen : (segs ++ [(⟨o, l.map (·.1), (l.map (·.1)).filter fun x => !(Nat.ble st.nx x && Nat.blt x st1.nx), readsOf st.env o.op⟩ : Seg)]).length = segs.length + 1 := by simp
          rw [hlen] at h1 h3 h4 hD
          obtain ⟨h5, h6⟩ := range_map_succ hb h3
          obtain ⟨h7, h8⟩ := range_map_succ rfl h4
          simp only [Bool.and_eq_true] at hc1
          refine ⟨fun i => if i = segs.length then o else O i, fun i => if i = segs.length then st else s i, fun i => if i = segs.length then l else L i, B, G, ⟨?_, ?_, ?_, ?_, ?_, ?_, ?_⟩, by simp, by simp [show ops.size ≠ segs.length by omega, h2], h5, h7⟩
          all_goals
            intro i hi1 hi2
            by_cases hi : i = segs.length
            · subst hi
              simp only [if_true, Nat.succ_ne_self, if_false, ← h5, ← h7, h6, h8, h1]
              try first | exact ho | exact hc1.1 | exact hc1.2 | exact hr | exact hc2
            · have hi3 : segs.length + 1 ≤ i := by omega
              have hi4 : ¬ i + 1 = segs.length := by omega
              (try simp only [hi, hi4, if_false])
              first | exact hD.o i hi3 hi2 | exact hD.b i hi3 hi2 | exact hD.g i hi3 hi2 | exact hD.e i hi3 hi2 | exact hD.a i hi3 hi2 | exact hD.r i hi3 hi2 | exact hD.c i hi3 hi2
      · cases h
end Rx
end Go.Proofs.YtedfdphapcanoaaGreatDoor
end

section
/- A run reckoned by the kernel: a region that draws its order comes to the same in every order. No program. -/
set_option linter.unusedVariables false
set_option linter.unusedSimpArgs false
namespace Go.Proofs.YtedfdphapcanoaaGreatDoor
open Go.RowKit Go.Lib
namespace Rx
variable {P : Program} {A : Amb}

def lis (l : Array Bool) (k : Nat) : Prop := l.getD k false = true
instance (l : Array Bool) (k : Nat) : Decidable (lis l k) := inferInstanceAs (Decidable (l.getD k false = true))
def inK (L : Nat → Log) (k id : Nat) : Prop := ∃ e ∈ L k, e.1 = id
/-- the frame when the operations of l have come up -/
def stE (e0 : Env) (d : Nat → Option Tmp) (V : Nat → Value) (l : Array Bool) : Nat → Env
  | 0 => e0
  | k + 1 => if lis l k then putE (stE e0 d V l k) (d k) (V k) else stE e0 d V l k
def stM (m0 : Mem) (L : Nat → Log) (l : Array Bool) : Nat → Mem
  | 0 => m0
  | k + 1 => if lis l k then (stM m0 L l k).add (L k) else stM m0 L l k
theorem putE_get (e : Env) (d : Option Tmp) (v : Value) (t : Nat) : putE e d v t = if d = some t then some v else e t := by
  cases d with
  | none => rfl
  | some d =>
    simp only [putE, Env.put, Option.some.injEq]
    by_cases h : t = d
    · subst h; simp
    · rw [if_neg (fun e => h e.symm)]
      cases hb : Nat.beq t d
      · rfl
      · exact absurd (Nat.eq_of_beq_eq_true hb) h
theorem stE_eq {e0 : Env} {d : Nat → Option Tmp} {V : Nat → Value} {l l' : Array Bool} {t : Nat} : ∀ (n : Nat), (∀ k, k < n → d k = some t → (lis l k ↔ lis l' k)) → stE e0 d V l n t = stE e0 d V l' n t
  | 0, _ => rfl
  | n + 1, h => by
    have ih := stE_eq (e0 := e0) (V := V) n fun k hk => h k (by omega)
    simp only [stE]
    by_cases hd : d n = some t
    · have := h n (by omega) hd
      by_cases hl : lis l n
      · rw [if_pos hl, if_pos (this.1 hl), putE_get, putE_get, if_pos hd, if_pos hd]
      · rw [if_neg hl, if_neg (fun h => hl (this.2 h)), ih]
    · have e1 : (if lis l n then putE (stE e0 d V l n) (d n) (V n) else stE e0 d V l n) t = stE e0 d V l n t := by
        split
        · rw [putE_get, if_neg hd]
        · rfl
      have e2 : (if lis l' n then putE (stE e0 d V l' n) (d n) (V n) else stE e0 d V l' n) t = stE e0 d V l' n t := by
        split
        · rw [putE_get, if_neg hd]
        · rfl
      rw [e1, e2, ih]
theorem stM_eq {m0 : Mem} {L : Nat → Log} {l l' : Array Bool} {id : Nat} : ∀ (n : Nat), (∀ k, k < n → inK L k id → (lis l k ↔ lis l' k)) → stM m0 L l n id = stM m0 L l' n id
  | 0, _ => rfl
  | n + 1, h => by
    have ih := stM_eq (m0 := m0) n fun k hk => h k (by omega)
    simp only [stM]
    by_cases hd : inK L n id
    · have := h n (by omega) hd
      by_cases hl : lis l n
      · rw [if_pos hl, if_pos (this.1 hl)]; exact add_in hd
      · rw [if_neg hl, if_neg (fun h => hl (this.2 h)), ih]
    · have e1 : (if lis l n then (stM m0 L l n).add (L n) else stM m0 L l n) id = stM m0 L l n id := by
        split
        · exact add_out hd
        · rfl
      have e2 : (if lis l' n then (stM m0 L l' n).add (L n) else stM m0 L l' n) id = stM m0 L l' n id := by
        split
        · exact add_out hd
        · rfl
      rw [e1, e2, ih]
/-- one more has come up, that nothing behind it writes over -/
theorem stE_put {e0 : Env} {d : Nat → Option Tmp} {V : Nat → Value} {l : Array Bool} {t i : Nat} (hi : i < l.size) : ∀ (n : Nat), i < n → (∀ k, i < k → k < n → lis l k → d k = some t → d i ≠ some t) →
    stE e0 d V (l.setIfInBounds i true) n t = if d i = some t then some (V i) else stE e0 d V l n t
  | 0, h, _ => by omega
  | n + 1, hn, h => by
    have hs : ∀ k, lis (l.setIfInBounds i true) k ↔ k = i ∨ lis l k := fun k => by
      unfold lis
      by_cases e : k = i
      · subst e; simp [hi]
      · simp [Array.getD_eq_getD_getElem?, Array.getElem?_setIfInBounds_ne (fun h => e h.symm), e]
    by_cases hin : i = n
    · subst hin
      simp only [stE]
      rw [if_pos ((hs i).2 (Or.inl rfl)), putE_get]
      by_cases hd : d i = some t
      · rw [if_pos hd, if_pos hd]
      · rw [if_neg hd, if_neg hd]
        have : stE e0 d V (l.setIfInBounds i true) i t = stE e0 d V l i t := stE_eq i fun k hk _ => by rw [hs]; exact ⟨fun h => h.resolve_left (by omega), Or.inr⟩
        rw [this]
        split
        · rw [putE_get, if_neg hd]
        · rfl
    · have ih := stE_put (e0 := e0) (V := V) hi n (by omega) fun k h1 h2 => h k h1 (by omega)
      simp only [stE]
      by_cases hl : lis l n
      · rw [if_pos ((hs n).2 (Or.inr hl)), if_pos hl, putE_get, putE_get, ih]
        by_cases hd : d n = some t
        · rw [if_pos hd, if_pos hd, if_neg (h n (by omega) (by omega) hl hd)]
        · rw [if_neg hd, if_neg hd]
      · rw [if_neg (fun e => hl (((hs n).1 e).resolve_left (fun e => hin e.symm))), if_neg hl, ih]
theorem stM_put {m0 : Mem} {L : Nat → Log} {l : Array Bool} {id i : Nat} (hi : i < l.size) : ∀ (n : Nat), i < n → (∀ k, i < k → k < n → lis l k → inK L k id → ¬ inK L i id) →
    stM m0 L (l.setIfInBounds i true) n id = (stM m0 L l n).add (L i) id
  | 0, h, _ => by omega
  | n + 1, hn, h => by
    have hs : ∀ k, lis (l.setIfInBounds i true) k ↔ k = i ∨ lis l k := fun k => by
      unfold lis
      by_cases e : k = i
      · subst e; simp [hi]
      · simp [Array.getD_eq_getD_getElem?, Array.getElem?_setIfInBounds_ne (fun h => e h.symm), e]
    by_cases hin : i = n
    · subst hin
      simp only [stM]
      rw [if_pos ((hs i).2 (Or.inl rfl))]
      by_cases hd : inK L i id
      · exact add_in hd
      · rw [add_out hd, add_out hd]
        have : stM m0 L (l.setIfInBounds i true) i id = stM m0 L l i id := stM_eq i fun k hk _ => by rw [hs]; exact ⟨fun h => h.resolve_left (by omega), Or.inr⟩
        rw [this]
        split
        · rw [add_out hd]
        · rfl
    · have ih := stM_put (m0 := m0) hi n (by omega) fun k h1 h2 => h k h1 (by omega)
      simp only [stM]
      by_cases hl : lis l n
      · rw [if_pos ((hs n).2 (Or.inr hl)), if_pos hl]
        by_cases hd : inK L n id
        · have hni := h n (by omega) (by omega) hl hd
          rw [add_out hni]
          exact add_in hd
        · rw [add_out hd, ih]
          by_cases hd2 : inK L i id
          · exact add_in hd2
          · rw [add_out hd2, add_out hd2, add_out hd]
      · rw [if_neg (fun e => hl (((hs n).1 e).resolve_left (fun e => hin e.symm))), if_neg hl, ih]
end Rx
end Go.Proofs.YtedfdphapcanoaaGreatDoor
end
