/- Several texts of this claim, one behind the other. -/
import Derived.Test.YtilfcikhipadpaaGreatDoorK6a
import Derived.KernelRfl

section
/- A run reckoned by the kernel: each order of a region that draws comes to where the text's own order comes. No program. -/
set_option linter.unusedVariables false
set_option linter.unusedSimpArgs false
namespace Go.Proofs.YtilfcikhipadpaaGreatDoor
open Go.RowKit Go.Lib
namespace Rx
variable {P : Program} {A : Amb}
section
variable {call : CallF} {ops : Array Oper} {O : Nat → Oper} {s : Nat → St} {L : Nat → Log} {B : Nat → Nat} {G : Nat → Seg} {V : Nat → Value}
def Dl (ops : Array Oper) (s : Nat → St) (D : Nat → Prop) (l : Array Bool) (id : Nat) : Prop := D id ∨ ∃ k, k < ops.size ∧ lis l k ∧ (s k).nx ≤ id ∧ id < (s (k + 1)).nx
/-- where the region stands when the operations of l have come up -/
structure Stage (P : Program) (A : Amb) (ops : Array Oper) (O : Nat → Oper) (s : Nat → St) (L : Nat → Log) (V : Nat → Value) (D : Nat → Prop) (ρ0 : Nm) (w0 : World) (l : Array Bool) (ρ : Nm) (a : Act) (w : World) : Prop where
  sz : l.size = ops.size
  closed : Closed ops O l
  asz : a.tmps.size = (s 0).n
  defers : a.defers = []
  same : ∀ id, (∀ k, k < ops.size → lis l k → ¬ ((s k).nx ≤ id ∧ id < (s (k + 1)).nx)) → ρ id = ρ0 id
  fr : ∀ t u, stE (s 0).env (fun k => (O k).dst) V l ops.size t = some u → a.tmps[t]? = some (ren ρ u) ∧ Fit (Dl ops s D l) u
  mem : MemOK P A (Dl ops s D l) ρ (stM (s 0).mem L l ops.size) w
  kept : Kept (owns ρ0 (s 0).mem) w0 w
  new : ∀ id b, (s 0).nx ≤ id → id < (s ops.size).nx → stM (s 0).mem L l ops.size id = some b → w0.heap.size ≤ (ρ id).1 ∨ owns ρ0 (s 0).mem (ρ id).1
theorem lis_set {l : Array Bool} {i k : Nat} (hi : i < l.size) : lis (l.setIfInBounds i true) k ↔ k = i ∨ lis l k := by
  unfold lis
  by_cases e : k = i
  · subst e; simp [hi]
  · simp [Array.getD_eq_getD_getElem?, Array.getElem?_setIfInBounds_ne (fun h => e h.symm), e]
theorem Rk.stage (h : Rk P A call ops O s L B G V) {D : Nat → Prop} {ρ0 ρ : Nm} {w0 w : World} {l : Array Bool} {a : Act} (hD : ∀ id, D id → ¬ ((s 0).nx ≤ id ∧ id < (s ops.size).nx)) (hm0 : ∀ id, ((s 0).mem id).isSome = true → D id)
    (hs : Stage P A ops O s L V D ρ0 w0 l ρ a w) {i : Nat} (ha : At ops O B l i) (hal : ∀ e ∈ (O i).after, Region.binds .any e = true → lis l e.on) {ρ' : Nm} {w' : World}
    (k : Aft P A (Dl ops s D l) ρ (viewOf s B G i) (s i).nx w (V i) (L i) (s (i + 1)).nx ρ' w') : Stage P A ops O s L V D ρ0 w0 (l.setIfInBounds i true) ρ' (a.put (O i).dst (ren ρ' (V i))) w' := by
  have hi := ha.lt
  have hil : i < l.size := by rw [ha.sz]; exact hi
  have hr := h.r i hi
  have hD' : ∀ id, ((s 0).mem id).isSome = true → ¬ ((s 0).nx ≤ id ∧ id < (s ops.size).nx) := fun id hid => hD id (hm0 id hid)
  have n0 : (s 0).nx ≤ (s i).nx := h.nx (Nat.zero_le _) (Nat.le_of_lt hi)
  have n1 : (s i).nx ≤ (s (i + 1)).nx := h.nx (Nat.le_succ _) hi
  have n2 : (s (i + 1)).nx ≤ (s ops.size).nx := h.nx hi (Nat.le_refl _)
  have disj : ∀ id, Dl ops s D l id → ¬ ((s i).nx ≤ id ∧ id < (s (i + 1)).nx) := fun id hid hr => by
    rcases hid with hid | ⟨k, hk, hl, h1, h2⟩
    · exact hD id hid ⟨by omega, by omega⟩
    · rcases Nat.lt_trichotomy k i with hki | rfl | hki
      · have := h.nx (i := k + 1) (j := i) hki (by omega)
        omega
      · exact ha.no hl
      · have := h.nx (i := i + 1) (j := k) hki (by omega)
        omega
  have hold : ∀ id, Dl ops s D l id → ρ' id = ρ id := fun id hid => k.same id (disj id hid)
  have oldv : ∀ {u : Value}, Fit (Dl ops s D l) u → ren ρ' u = ren ρ u := fun hu => hu ρ' ρ hold
  have hDl : ∀ id, Rx.ext (Dl ops s D l) (s i).nx (s (i + 1)).nx id → Dl ops s D (l.setIfInBounds i true) id := fun id hid => by
    rcases hid with (hid | ⟨k, hk, hl, h1, h2⟩) | hid
    · exact Or.inl hid
    · exact Or.inr ⟨k, hk, (lis_set hil).2 (Or.inr hl), h1, h2⟩
    · exact Or.inr ⟨i, hi, (lis_set hil).2 (Or.inl rfl), hid⟩
  have hmem : ∀ id, stM (s 0).mem L (l.setIfInBounds i true) ops.size id = (stM (s 0).mem L l ops.size).add (L i) id := fun id =>
    stM_put hil ops.size hi fun k h1 h2 hl hd => h.cell2 hD' ha h1 h2 hl hd
  have hview : ∀ {id : Nat} {b : Blk}, viewOf s B G i id = some b → stM (s 0).mem L l ops.size id = some b := fun hv => h.cell hD' ha hv
  have cls : ∀ {id : Nat} {b : Blk}, stM (s 0).mem L (l.setIfInBounds i true) ops.size id = some b → (viewOf s B G i).add (L i) id = some b ∨ (stM (s 0).mem L l ops.size id = some b ∧ viewOf s B G i id = none) := fun {id b} e => by
    rw [hmem] at e
    by_cases hk : inK L i id
    · left; rw [← e]; exact add_in hk
    · rw [add_out hk] at e
      cases hv : viewOf s B G i id with
      | none => exact Or.inr ⟨e, rfl⟩
      | some c =>
        left
        rw [add_out hk, hv, ← e, hview hv]
  have h1dom : ∀ {id : Nat} {b : Blk}, (viewOf s B G i).add (L i) id = some b → (∃ c, viewOf s B G i id = some c) ∨ ((s i).nx ≤ id ∧ id < (s (i + 1)).nx) := fun e => by
    rcases add_dom hr.log e with h0 | h0
    · exact Or.inl (Option.isSome_iff_exists.1 h0)
    · exact Or.inr h0
  have hnot : ∀ {id : Nat} {b : Blk}, stM (s 0).mem L l ops.size id = some b → viewOf s B G i id = none → ¬ owns ρ (viewOf s B G i) (ρ id).1 := fun {id b} e hn ⟨j, c, hj, he⟩ => by
    have hne : id ≠ j := fun h => by rw [h, hj] at hn; cases hn
    exact hs.mem.inj e (hview hj) hne he
  have hown : ∀ b, owns ρ (viewOf s B G i) b → w0.heap.size ≤ b ∨ owns ρ0 (s 0).mem b := fun b ⟨id, c, hc, hb⟩ => by
    subst hb
    have e := hview hc
    have hv := seesOf_sub hc
    rcases h.dom (Nat.le_of_lt hi) hv.1 with hd | hd
    · obtain ⟨c', hc'⟩ := Option.isSome_iff_exists.1 hd
      have hdd := hD' id hd
      refine Or.inr ⟨id, c', hc', ?_⟩
      rw [hs.same id fun q hq hl hr => hdd ?_]
      have m1 := h.nx (i := 0) (j := q) (by omega) (by omega)
      have m2 := h.nx (i := q + 1) (j := ops.size) hq (Nat.le_refl _)
      exact ⟨by omega, by omega⟩
    · exact hs.new id c hd.1 (by omega) e
  refine ⟨by simp [hs.sz], fun q hq hl e he hb => ?_, by rw [put_size]; exact hs.asz, by rw [put_defers_]; exact hs.defers, fun id hid => ?_, fun t u hu => ?_, ⟨k.mem.s, fun {id b} e => ?_, fun {id cs T r} e v hv => ?_, fun {id cs T r} e => ?_, fun {id j b c} e f hij => ?_⟩, ?_, fun id b h1 h2 e => ?_⟩
  · rcases (lis_set hil).1 hl with rfl | hl
    · exact (lis_set hil).2 (Or.inr (hal e he hb))
    · exact (lis_set hil).2 (Or.inr (hs.closed q hq hl e he hb))
  · rw [k.same id (hid i hi ((lis_set hil).2 (Or.inl rfl)))]
    exact hs.same id fun q hq hl => hid q hq ((lis_set hil).2 (Or.inr hl))
  · rw [stE_put hil ops.size hi fun q h1 h2 hl hd => h.slot2 ha h1 h2 hl hd] at hu
    by_cases hd : (O i).dst = some t
    · rw [if_pos hd] at hu
      simp only [Option.some.injEq] at hu
      subst hu
      have hlt : t < a.tmps.size := by rw [hs.asz]; have := hr.lt t hd; rw [(h.ext (Nat.zero_le i) (Nat.le_of_lt hi)).n] at this; exact this
      rw [hd, put_get hlt, if_pos rfl]
      exact ⟨rfl, k.fit.mono hDl⟩
    · rw [if_neg hd] at hu
      obtain ⟨h1, h2⟩ := hs.fr t u hu
      refine ⟨?_, h2.mono fun id hid => hDl id (Or.inl hid)⟩
      rw [oldv h2]
      cases hdd : (O i).dst with
      | none => exact h1
      | some d =>
        have hlt : d < a.tmps.size := by rw [hs.asz]; have := hr.lt d hdd; rw [(h.ext (Nat.zero_le i) (Nat.le_of_lt hi)).n] at this; exact this
        rw [put_get hlt, if_neg (fun e => hd (by rw [hdd, e]))]
        exact h1
  · rcases cls e with e | ⟨e, hn⟩
    · exact ⟨hDl id (k.mem.dom e).1, (k.mem.dom e).2⟩
    · have := hs.mem.dom e
      exact ⟨hDl id (Or.inl this.1), by rw [hold id this.1]; exact this.2⟩
  · rcases cls e with e | ⟨e, hn⟩
    · exact (k.mem.fit e v hv).mono hDl
    · exact (hs.mem.fit e v hv).mono fun id hid => hDl id (Or.inl hid)
  · rcases cls e with e | ⟨e, hn⟩
    · exact k.mem.lies e
    · have hd := (hs.mem.dom e).1
      rw [hold id hd]
      exact ((hs.mem.lies e).same (k.kept.block _ (hs.mem.lies e).lt (hnot e hn))).ren (hs.mem.fit e) fun j hj => (hold j hj).symm
  · rcases cls e with e | ⟨e, hn⟩ <;> rcases cls f with f | ⟨f, hn'⟩
    · exact k.mem.inj e f hij
    · rw [hold j (hs.mem.dom f).1]
      rcases h1dom e with ⟨c', hc'⟩ | hrng
      · have e2 := hview hc'
        rw [hold id (hs.mem.dom e2).1]
        exact hs.mem.inj e2 f hij
      · rcases k.new id b hrng.1 hrng.2 e with h9 | h9
        · have := hs.mem.lt f
          omega
        · exact fun heq => hnot f hn' (heq ▸ h9)
    · rw [hold id (hs.mem.dom e).1]
      rcases h1dom f with ⟨c', hc'⟩ | hrng
      · have f2 := hview hc'
        rw [hold j (hs.mem.dom f2).1]
        exact hs.mem.inj e f2 hij
      · rcases k.new j c hrng.1 hrng.2 f with h9 | h9
        · have := hs.mem.lt e
          omega
        · exact fun heq => hnot e hn (heq.symm ▸ h9)
    · rw [hold id (hs.mem.dom e).1, hold j (hs.mem.dom f).1]
      exact hs.mem.inj e f hij
  · refine Kept.trans hs.kept k.kept (fun _ _ h => h) fun b hb hk => ?_
    rcases hown b hk with h9 | h9
    · omega
    · exact h9
  · by_cases hrng : (s i).nx ≤ id ∧ id < (s (i + 1)).nx
    · rcases cls e with e | ⟨e, hn⟩
      · rcases k.new id b hrng.1 hrng.2 e with h9 | h9
        · have := hs.kept.size
          exact Or.inl (by omega)
        · exact hown _ h9
      · exact absurd hrng (disj id (hs.mem.dom e).1)
    · rw [k.same id hrng]
      rcases cls e with e | ⟨e, hn⟩
      · rcases h1dom e with ⟨c', hc'⟩ | hr2
        · exact hs.new id c' h1 h2 (hview hc')
        · exact absurd hr2 hrng
      · exact hs.new id b h1 h2 e
theorem Rk.run (h : Rk P A call ops O s L B G V) (hc : ∀ i, i < ops.size → OpC P A ops (O i) (viewOf s B G i) (s i) (s (i + 1)) (V i) (L i)) {D : Nat → Prop} {ρ0 : Nm} {w0 : World} (hD : ∀ id, D id → ¬ ((s 0).nx ≤ id ∧ id < (s ops.size).nx)) (hm0 : ∀ id, ((s 0).mem id).isSome = true → D id)
    {Q : Exit → Act → World → Prop} (hQ : ∀ ρ a w l, Stage P A ops O s L V D ρ0 w0 l ρ a w → (∀ k, k < ops.size → lis l k) → Q .normal a w) :
    ∀ (f : Nat) (l : Array Bool) (ρ : Nm) (a : Act) (w : World), (List.range ops.size).countP (fun k => !decide (lis l k)) ≤ f → Stage P A ops O s L V D ρ0 w0 l ρ a w → wpAny P .any ops Q f l a w := by
  have ready_of : ∀ {l : Array Bool} {i : Nat}, l.size = ops.size → (i ∈ Region.ready .any ops l ↔ i < ops.size ∧ ¬ lis l i ∧ ∀ e ∈ (O i).after, Region.binds .any e = true → lis l e.on) := fun {l i} hsz => by
    rw [mem_ready]
    unfold lis
    constructor
    · rintro ⟨h1, o, ho, h2⟩
      have hi : i < ops.size := (Array.getElem?_eq_some_iff.1 ho).1
      have : o = O i := by have := h.oi hi; rw [ho] at this; simpa using this
      subst this
      refine ⟨hi, ?_, h2⟩
      have hil : i < l.size := by omega
      simp only [Array.getD_eq_getD_getElem?, Array.getElem?_eq_getElem hil, Option.getD_some] at h1 ⊢
      simp [h1]
    · rintro ⟨hi, h1, h2⟩
      refine ⟨?_, O i, h.oi hi, h2⟩
      have hil : i < l.size := by omega
      simp only [Array.getD_eq_getD_getElem?, Array.getElem?_eq_getElem hil, Option.getD_some] at h1 ⊢
      simpa using h1
  have none_ready : ∀ {l : Array Bool}, l.size = ops.size → Region.ready .any ops l = [] → ∀ k, k < ops.size → lis l k := fun {l} hsz hr k => by
    induction k using Nat.strongRecOn with
    | _ k ih =>
      intro hk
      apply Decidable.byContradiction
      intro hno
      have : k ∈ Region.ready .any ops l := (ready_of hsz).2 ⟨hk, hno, fun e he hb => ih e.on (early_spec (h.d.e k (Nat.zero_le _) hk) e (by simpa using he) hb) (by have := early_spec (h.d.e k (Nat.zero_le _) hk) e (by simpa using he) hb; omega)⟩
      rw [hr] at this
      cases this
  intro f
  induction f with
  | zero =>
    intro l ρ a w hcnt hs
    have hall : ∀ k, k < ops.size → lis l k := fun k hk => by
      have := List.countP_eq_zero.1 (Nat.le_zero.1 hcnt) k (by simpa using hk)
      simpa using this
    refine ⟨?_, hQ ρ a w l hs hall⟩
    cases hr : Region.ready .any ops l with
    | nil => rfl
    | cons i r =>
      have : i ∈ Region.ready .any ops l := by rw [hr]; simp
      have := (ready_of hs.sz).1 this
      exact absurd (hall i this.1) this.2.1
  | succ f ih =>
    intro l ρ a w hcnt hs
    refine ⟨fun hr => hQ ρ a w l hs (none_ready hs.sz hr), fun i hi => ?_⟩
    obtain ⟨h1, h2, h3⟩ := (ready_of hs.sz).1 hi
    have hat := h.at_ hs.closed hs.sz h1 h2 h3
    have hil : i < l.size := by rw [hs.sz]; exact h1
    have hD' : ∀ id, ((s 0).mem id).isSome = true → ¬ ((s 0).nx ≤ id ∧ id < (s ops.size).nx) := fun id hid => hD id (hm0 id hid)
    have hview : ∀ {id : Nat} {b : Blk}, viewOf s B G i id = some b → stM (s 0).mem L l ops.size id = some b := fun hv => h.cell hD' hat hv
    have n0 : (s 0).nx ≤ (s i).nx := h.nx (Nat.zero_le _) (Nat.le_of_lt h1)
    have n2 : (s (i + 1)).nx ≤ (s ops.size).nx := h.nx h1 (Nat.le_refl _)
    refine hc i h1 i (Dl ops s D l) ρ a w _ Q (h.oi h1) (fun t u ht hu => ?_) ⟨hs.mem.s, fun e => hs.mem.dom (hview e), fun e => hs.mem.fit (hview e), fun e => hs.mem.lies (hview e), fun e f => hs.mem.inj (hview e) (hview f)⟩ (fun id hid hr => ?_) (fun ρ' w' k => ?_)
    · rw [h.slot hat ht] at hu
      exact hs.fr t u hu
    · rcases hid with hid | ⟨k, hk, hl, h1', h2'⟩
      · exact hD id hid ⟨by omega, by omega⟩
      · rcases Nat.lt_trichotomy k i with hki | rfl | hki
        · have := h.nx (i := k + 1) (j := i) hki (by omega)
          omega
        · exact h2 hl
        · have := h.nx (i := i + 1) (j := k) hki (by omega)
          omega
    · refine ih _ ρ' _ w' ?_ (h.stage hD hm0 hs hat h3 k)
      have hlt : (List.range ops.size).countP (fun k => !decide (lis (l.setIfInBounds i true) k)) < (List.range ops.size).countP (fun k => !decide (lis l k)) := by
        have gen : ∀ (xs : List Nat), i ∈ xs → xs.countP (fun k => !decide (lis (l.setIfInBounds i true) k)) < xs.countP (fun k => !decide (lis l k)) := by
          have le : ∀ (xs : List Nat), xs.countP (fun k => !decide (lis (l.setIfInBounds i true) k)) ≤ xs.countP (fun k => !decide (lis l k)) := fun xs =>
            List.countP_mono_left fun x _ hx => by
              simp only [Bool.not_eq_true', decide_eq_false_iff_not] at hx ⊢
              exact fun hl => hx ((lis_set hil).2 (Or.inr hl))
          intro xs
          induction xs with
          | nil => intro h; cases h
          | cons x xs ihx =>
            intro hx
            rw [List.countP_cons, List.countP_cons]
            by_cases e : x = i
            · subst e
              rw [if_neg (by simp [lis_set hil]), if_pos (by simp [h2])]
              have := le xs
              omega
            · have := ihx ((List.mem_cons.1 hx).resolve_left fun h => e h.symm)
              by_cases hl : lis l x
              · rw [if_neg (by simp [lis_set hil, hl]), if_neg (by simp [hl])]; omega
              · rw [if_pos (by simp [lis_set hil, hl, e]), if_pos (by simp [hl])]; omega
        exact gen _ (by simpa using h1)
      omega
end
theorem Sound.all {f : Nat → Ts} {C : Nat → Prop} : ∀ (n : Nat), (∀ i, i < n → Sound P A (f i) (f (i + 1)) (C i)) → Sound P A (f 0) (f n) (∀ i, i < n → C i)
  | 0, _ => Sound.refl fun i h => (by omega)
  | n + 1, h => (Sound.all n fun i hi => h i (by omega)).bind ((h n (by omega)).mono fun hn ha i hi => by
      by_cases e : i = n
      · rw [e]; exact hn
      · exact ha i (by omega))
theorem runDraw_S {call : CallF} (hc : CallS P A call) {ops : Array Oper} {st st' : St} (h : runDraw P call ops ops.toList [] [] st = some st') :
    StepS P A (fun K a w => ∀ Q : Exit → Act → World → Prop, (∀ a w, K a w → Q .normal a w) → wpAny P .any ops Q ops.size (Array.replicate ops.size false) a w) st st' := by
  obtain ⟨O, s, L, B, G, hdat, h0, hn, _, _⟩ := dat_of ops.toList [] [] st st' rfl (by simp) h
  have hdat : Dat P call ops 0 ops.size O s L B G := hdat
  have h0 : s 0 = st := h0
  have hex : ∀ i, ∃ v, i < ops.size → OpRes (O i) (viewOf s B G i) (s i) v (L i) (s (i + 1)) ∧ Sound P A (s i).ts (s (i + 1)).ts (OpC P A ops (O i) (viewOf s B G i) (s i) (s (i + 1)) v (L i)) := fun i => by
    by_cases hi : i < ops.size
    · have hr := hdat.r i (Nat.zero_le _) hi
      obtain ⟨v, h1, h2⟩ := runOp_S hc hr (T := fun t => t ∈ (O i).looksAt ops) (fun x u hx => by
        obtain ⟨k1, k2⟩ := Looks.restr (O i) (s i).env x u hx
        exact ⟨k1, fun t ht => List.mem_append_left _ (List.mem_filterMap.2 ⟨.tmp t, k2 t ht, rfl⟩)⟩) (fun d hd => List.mem_append_right _ hd)
      exact ⟨v, fun _ => ⟨h1, h2⟩⟩
    · exact ⟨undef, fun h => absurd h hi⟩
  let V : Nat → Value := fun i => Classical.choose (hex i)
  have hV : ∀ i, i < ops.size → OpRes (O i) (viewOf s B G i) (s i) (V i) (L i) (s (i + 1)) ∧ Sound P A (s i).ts (s (i + 1)).ts (OpC P A ops (O i) (viewOf s B G i) (s i) (s (i + 1)) (V i) (L i)) := fun i => Classical.choose_spec (hex i)
  have hk : Rk P A call ops O s L B G V := ⟨hdat, fun i hi => (hV i hi).1⟩
  refine ⟨by rw [← h0, ← hn]; exact hk.ext (Nat.zero_le _) (Nat.le_refl _), ?_⟩
  have hS := Sound.all (P := P) (A := A) (f := fun i => (s i).ts) ops.size fun i hi => (hV i hi).2
  simp only [h0, hn] at hS
  refine hS.mono fun hC D ρ a w K ho hD hK Q hq => ?_
  subst h0 hn
  have hnl : ∀ k, ¬ lis (Array.replicate ops.size false) k := fun k hl => by
    unfold lis at hl
    by_cases hk : k < ops.size <;> simp [Array.getD_eq_getD_getElem?, hk] at hl
  have e0 : ∀ n, stE (s 0).env (fun k => (O k).dst) V (Array.replicate ops.size false) n = (s 0).env := fun n => by
    induction n with
    | zero => rfl
    | succ n ih => simp only [stE]; rw [if_neg (hnl n), ih]
  have m0 : ∀ n, stM (s 0).mem L (Array.replicate ops.size false) n = (s 0).mem := fun n => by
    induction n with
    | zero => rfl
    | succ n ih => simp only [stM]; rw [if_neg (hnl n), ih]
  have hm0 : ∀ id, ((s 0).mem id).isSome = true → D id := fun id hid => by
    obtain ⟨b, hb⟩ := Option.isSome_iff_exists.1 hid
    exact (ho.mem.dom hb).1
  refine hk.run hC hD hm0 (ρ0 := ρ) (w0 := w) (fun ρ' a' w' l hs hall => hq a' w' (hK ρ' a' w' ?_)) ops.size _ ρ a w (by
    have := List.countP_le_length (p := fun k => !decide (lis (Array.replicate ops.size false) k)) (l := List.range ops.size)
    simpa using this) ⟨by simp, fun k _ hl => absurd hl (hnl k), ho.size, ho.defers, fun _ _ => rfl, fun t u hu => ?_, ?_, Kept.refl _ _, fun id b h1 h2 e => ?_⟩
  · have ea : ∀ t, stE (s 0).env (fun k => (O k).dst) V l ops.size t = (s ops.size).env t := fun t => by
      rw [hk.env ops.size (Nat.le_refl _)]
      exact stE_eq _ fun k hkk _ => by rw [lis_all]; exact ⟨fun _ => hkk, fun _ => hall k hkk⟩
    have em : ∀ id, stM (s 0).mem L l ops.size id = (s ops.size).mem id := fun id => by
      rw [hk.mem ops.size (Nat.le_refl _)]
      exact stM_eq _ fun k hkk _ => by rw [lis_all]; exact ⟨fun _ => hkk, fun _ => hall k hkk⟩
    have em : stM (s 0).mem L l ops.size = (s ops.size).mem := funext em
    have hsub : ∀ id, Dl ops s D l id → ext D (s 0).nx (s ops.size).nx id := fun id hid => by
      rcases hid with hid | ⟨k, hkk, _, h1, h2⟩
      · exact Or.inl hid
      · have m1 := hk.nx (i := 0) (j := k) (by omega) (by omega)
        have m2 := hk.nx (i := k + 1) (j := ops.size) hkk (Nat.le_refl _)
        exact Or.inr ⟨by omega, by omega⟩
    refine ⟨fun id hid => hs.same id fun k hkk _ hr => ?_, ⟨fun t u _ hu => ?_, by rw [hs.asz, (hk.ext (Nat.zero_le _) (Nat.le_refl _)).n], hs.defers, by rw [← em]; exact hs.mem.mono hsub⟩, hs.kept, fun id b h1 h2 e => hs.new id b h1 h2 (by rw [em]; exact e)⟩
    · have m1 := hk.nx (i := 0) (j := k) (by omega) (by omega)
      have m2 := hk.nx (i := k + 1) (j := ops.size) hkk (Nat.le_refl _)
      exact hid ⟨by omega, by omega⟩
    · obtain ⟨h1, h2⟩ := hs.fr t u (by rw [ea]; exact hu)
      exact ⟨h1, h2.mono hsub⟩
  · rw [e0] at hu
    obtain ⟨h1, h2⟩ := ho.fr t u trivial hu
    exact ⟨h1, h2.mono fun _ => Or.inl⟩
  · rw [m0]; exact ho.mem.mono fun _ => Or.inl
  · rw [m0] at e
    exact absurd ⟨h1, h2⟩ (hD id (hm0 id (by rw [e]; rfl)))
end Rx
end Go.Proofs.YtilfcikhipadpaaGreatDoor
end

section
/- A run reckoned by the kernel: code, calls, and what it is good for. No program. -/
set_option linter.unusedVariables false
set_option linter.unusedSimpArgs false
namespace Go.Proofs.YtilfcikhipadpaaGreatDoor
open Go.RowKit Go.Lib
namespace Rx
variable {P : Program} {A : Amb}

/-- the code c, run from st, is left by x at st' -/
def CodeS (P : Program) (A : Amb) (c : Code) (st : St) (x : X) (st' : St) : Prop :=
  Ext st st' ∧ Sound P A st.ts st'.ts (∀ (D : Nat → Prop) (ρ : Nm) (a : Act) (w : World) (Q : Exit → Act → World → Prop), StOK P A D ρ st a w → (∀ i, D i → ¬ (st.nx ≤ i ∧ i < st'.nx)) →
    (∀ ρ' a' w', StAft P A D ρ st w st' ρ' a' w' → Q (exitOf x) a' w') → c.wp P Q a w)
theorem CodeS.nil {c : Code} {st : St} {x : X} (h : ∀ (Q : Exit → Act → World → Prop) a w, Q (exitOf x) a w → c.wp P Q a w) : CodeS P A c st x st :=
  ⟨Ext.refl _, Sound.refl fun D ρ a w Q hs hD hk => h Q a w (hk ρ a w (StAft.refl hs))⟩
theorem CodeS.seq {a b : Code} {s0 s1 s2 : St} {x : X} (h : CodeS P A a s0 .nrm s1) (k : CodeS P A b s1 x s2) : CodeS P A (.seq a b) s0 x s2 := by
  obtain ⟨h1, h2⟩ := h
  obtain ⟨k1, k2⟩ := k
  refine ⟨h1.trans k1, h2.bind (k2.mono fun k' h' D ρ ac w Q hs hD hk => wp_seq (h' D ρ ac w _ hs (fun i hi => fun ⟨x, y⟩ => hD i hi ⟨x, by have := k1.nx; omega⟩) fun ρ1 a1 w1 h3 => ?_))⟩
  exact k' _ ρ1 a1 w1 Q h3.ok (ext_disj hD h1.nx) fun ρ2 a2 w2 h4 => hk ρ2 a2 w2 (StAft.trans h1 k1 hs.mem hD h3 h4)
theorem StOK.drew {D : Nat → Prop} {ρ : Nm} {st : St} {a : Act} {w : World} (h : StOK P A D ρ st a w) : StOK P A D ρ st a { w with drawn := w.drawn + 1 } :=
  ⟨h.fr, h.size, h.defers, h.mem.kept (Kept.drew (fun _ => False) w) (fun _ k => k.elim) (fun _ _ _ k => k)⟩
theorem StAft.undrew {D : Nat → Prop} {ρ ρ' : Nm} {st st' : St} {a' : Act} {w w' : World} (h : StAft P A D ρ st { w with drawn := w.drawn + 1 } st' ρ' a' w') : StAft P A D ρ st w st' ρ' a' w' :=
  ⟨h.same, h.ok, Kept.trans (Kept.drew (fun _ => False) w) h.kept (fun _ _ k => k.elim) (fun _ _ k => k), h.new⟩

/-- a loop, from the head of a round on -/
def wpL (P : Program) (c : Code) (Q : Exit → Act → World → Prop) (a : Act) (w : World) : Prop :=
  ∀ (b : Frame) (k : List Item) (cs : List Frame), ∃ e a' w', Q e a' w' ∧ Arrives P (lone (b.at a (.code c :: .inLoop c :: k)) cs w) b k cs e a' w'
theorem wpL_step {c : Code} {Q : Exit → Act → World → Prop} {a : Act} {w : World} (h : c.wp P (Exit.then (wpL P c Q) Q) a w) : wpL P c Q a w := by
  intro b k cs
  obtain ⟨e, a₁, w₁, hq, harr⟩ := h b (.inLoop c :: k) cs
  cases e with
  | normal =>
    obtain ⟨e₂, a₂, w₂, hq₂, harr₂⟩ := hq b k cs
    exact ⟨e₂, a₂, w₂, hq₂, .of_steps (Steps.trans harr (.one step_inLoop)) harr₂⟩
  | exit id => exact ⟨_, a₁, w₁, hq, .pass (x := .inLoop c) rfl (fun _ _ => .inl (by simp)) harr⟩
  | goto l => exact ⟨_, a₁, w₁, hq, .pass (x := .inLoop c) rfl (fun _ _ => .inl (by simp)) harr⟩
  | ret => exact ⟨_, a₁, w₁, hq, .pass (x := .inLoop c) rfl (fun _ _ => .inl (by simp)) harr⟩
  | panic ch => exact ⟨_, a₁, w₁, hq, .pass (x := .inLoop c) rfl (fun _ _ => .inl (by simp)) harr⟩
  | outgrown => exact ⟨_, a₁, w₁, hq, .pass (x := .inLoop c) rfl (fun _ _ => .inl (by simp)) harr⟩
theorem wp_of_wpL {c : Code} {Q : Exit → Act → World → Prop} {a : Act} {w : World} (h : wpL P c Q a w) : (Code.loop c).wp P Q a w := by
  intro b k cs
  obtain ⟨e, a', w', hq, harr⟩ := h b k cs
  exact ⟨e, a', w', hq, .of_steps (.one step_loop) harr⟩
theorem loopN_S {c : Code} {f : St → Option (X × St)} (hf : ∀ st x st', f st = some (x, st') → CodeS P A c st x st') : ∀ (n : Nat) (st : St) (x : X) (st' : St), loopN f n st = some (x, st') →
    Ext st st' ∧ Sound P A st.ts st'.ts (∀ (D : Nat → Prop) (ρ : Nm) (a : Act) (w : World) (Q : Exit → Act → World → Prop), StOK P A D ρ st a w → (∀ i, D i → ¬ (st.nx ≤ i ∧ i < st'.nx)) →
      (∀ ρ' a' w', StAft P A D ρ st w st' ρ' a' w' → Q (exitOf x) a' w') → wpL P c Q a w) ∧ x ≠ .nrm
  | 0, _, _, _, h => by cases h
  | n + 1, st, x, st', h => by
    simp only [loopN] at h
    split at h
    · rename_i st1 h1
      obtain ⟨e1, s1⟩ := hf _ _ _ h1
      obtain ⟨e2, s2, hx⟩ := loopN_S hf n st1 x st' h
      refine ⟨e1.trans e2, s1.bind (s2.mono fun k' h' D ρ a w Q hs hD hk => wpL_step (h' D ρ a w _ hs (fun i hi => fun ⟨x, y⟩ => hD i hi ⟨x, by have := e2.nx; omega⟩) fun ρ1 a1 w1 h3 => ?_)), hx⟩
      exact k' _ ρ1 a1 w1 Q h3.ok (ext_disj hD e1.nx) fun ρ2 a2 w2 h4 => hk ρ2 a2 w2 (StAft.trans e1 e2 hs.mem hD h3 h4)
    · rename_i hr
      have hx : x ≠ .nrm := fun e => by subst e; exact hr _ h
      obtain ⟨e1, s1⟩ := hf _ _ _ h
      refine ⟨e1, s1.mono fun h' D ρ a w Q hs hD hk => wpL_step (h' D ρ a w _ hs hD fun ρ1 a1 w1 h3 => ?_), hx⟩
      have := hk ρ1 a1 w1 h3
      cases x <;> first | exact absurd rfl hx | exact this
theorem look_spec {e : Env} : ∀ {l : List Nat} {vs : List (Nat × Value)}, look e l = some vs → ∀ t u, envL vs t = some u → e t = some u
  | [], vs, h, t, u, hu => by
    simp only [look, Option.some.injEq] at h
    subst h; cases hu
  | s :: l, vs, h, t, u, hu => by
    simp only [look] at h
    split at h
    · rename_i v hv
      split at h
      · rename_i r hr
        simp only [Option.some.injEq] at h
        subst h
        simp only [envL, Env.put] at hu
        cases hts : Nat.beq t s <;> simp only [hts, cond] at hu
        · exact look_spec hr t u hu
        · simp only [Option.some.injEq] at hu
          subst hu
          rw [Nat.eq_of_beq_eq_true hts]; exact hv
      · cases h
    · cases h
theorem exec_S (hm : P.follows .mixedOrders = true) {call : CallF} (hc : CallS P A call) (fuel : Nat) : ∀ (c : Code) (st : St) (x : X) (st' : St), exec P call fuel c st = some (x, st') → CodeS P A c st x st' := by
  intro c
  induction c with
  | skip =>
    intro st x st' h
    simp only [exec, Option.some.injEq, Prod.mk.injEq] at h
    obtain ⟨rfl, rfl⟩ := h
    exact CodeS.nil fun Q a w h => wp_skip h
  | label l =>
    intro st x st' h
    simp only [exec, Option.some.injEq, Prod.mk.injEq] at h
    obtain ⟨rfl, rfl⟩ := h
    exact CodeS.nil fun Q a w h => wp_label h
  | exit id =>
    intro st x st' h
    simp only [exec, Option.some.injEq, Prod.mk.injEq] at h
    obtain ⟨rfl, rfl⟩ := h
    exact CodeS.nil fun Q a w h => wp_exit h
  | ret =>
    intro st x st' h
    simp only [exec, Option.some.injEq, Prod.mk.injEq] at h
    obtain ⟨rfl, rfl⟩ := h
    exact CodeS.nil fun Q a w h => wp_ret h
  | region id ops draw =>
    intro st x st' h
    cases draw
    · simp only [exec, nrm] at h
      split at h
      · rename_i st1 h1
        simp only [Option.some.injEq, Prod.mk.injEq] at h
        obtain ⟨rfl, rfl⟩ := h
        obtain ⟨e, s⟩ := runSeq_S hc (Q := fun _ _ _ => True) ops.toList 0 st st1 (by simp) h1
        refine ⟨e, s.mono fun h' D ρ a w Q hs hD hk => wp_region ?_⟩
        have := h' D ρ a w (fun a w => Q .normal a w) hs hD hk Q (fun _ _ h => h)
        rwa [Array.length_toList, ← List.range_eq_range'] at this
      · cases h
    · simp only [exec, nrm] at h
      split at h
      · rename_i st1 h1
        simp only [Option.some.injEq, Prod.mk.injEq] at h
        obtain ⟨rfl, rfl⟩ := h
        obtain ⟨e, s⟩ := runDraw_S hc h1
        refine ⟨e, s.mono fun h' D ρ a w Q hs hD hk => wp_region_any hm ?_⟩
        exact h' D ρ a _ (fun a w => Q .normal a w) hs.drew hD (fun ρ' a' w' k => hk ρ' a' w' k.undrew) Q (fun _ _ h => h)
      · cases h
  | seq a b iha ihb =>
    intro st x st' h
    simp only [exec] at h
    split at h
    · rename_i st1 h1
      exact CodeS.seq (iha _ _ _ h1) (ihb _ _ _ h)
    · rename_i hr
      obtain ⟨e, s⟩ := iha _ _ _ h
      refine ⟨e, s.mono fun h' D ρ ac w Q hs hD hk => wp_seq (h' D ρ ac w _ hs hD fun ρ1 a1 w1 h3 => ?_)⟩
      have := hk ρ1 a1 w1 h3
      cases x <;> first | exact absurd h (hr _) | exact this
  | cond c a b iha ihb =>
    intro st x st' h
    simp only [exec] at h
    split at h
    · rename_i y hy
      split at h
      · rename_i ts hb
        obtain ⟨e, s⟩ := iha _ _ _ h
        refine ⟨⟨e.nx, e.n, e.mem⟩, (Sound.bool (P := P) (A := A) hb).bind (Sound.like (s.mono fun h' hyt D ρ ac w Q hs hD hk => ?_) ⟨rfl, rfl⟩ ⟨rfl, rfl⟩)⟩
        subst hyt
        have he := (Looks.all st.env).ev hs.fr c _ hy
        exact wp_cond_true he.1 (h' D ρ ac w Q ⟨hs.fr, hs.size, hs.defers, hs.mem⟩ hD fun ρ' a' w' k => hk ρ' a' w' ⟨k.same, k.ok, k.kept, k.new⟩)
      · rename_i ts hb
        obtain ⟨e, s⟩ := ihb _ _ _ h
        refine ⟨⟨e.nx, e.n, e.mem⟩, (Sound.bool (P := P) (A := A) hb).bind (Sound.like (s.mono fun h' hyt D ρ ac w Q hs hD hk => ?_) ⟨rfl, rfl⟩ ⟨rfl, rfl⟩)⟩
        subst hyt
        have he := (Looks.all st.env).ev hs.fr c _ hy
        exact wp_cond_false he.1 (h' D ρ ac w Q ⟨hs.fr, hs.size, hs.defers, hs.mem⟩ hD fun ρ' a' w' k => hk ρ' a' w' ⟨k.same, k.ok, k.kept, k.new⟩)
    · cases h
  | block id c ih =>
    intro st x st' h
    simp only [exec] at h
    split at h
    · rename_i j st1 h1
      obtain ⟨e, s⟩ := ih _ _ _ h1
      cases hb : Nat.beq j id <;> simp only [hb, cond, Option.some.injEq, Prod.mk.injEq] at h
      · obtain ⟨rfl, rfl⟩ := h
        refine ⟨e, s.mono fun h' D ρ ac w Q hs hD hk => wp_block (h' D ρ ac w _ hs hD fun ρ1 a1 w1 h3 => ?_)⟩
        have := hk ρ1 a1 w1 h3
        show if j = id then _ else _
        rw [if_neg (Nat.ne_of_beq_eq_false hb)]
        exact this
      · obtain ⟨rfl, rfl⟩ := h
        refine ⟨e, s.mono fun h' D ρ ac w Q hs hD hk => wp_block (h' D ρ ac w _ hs hD fun ρ1 a1 w1 h3 => ?_)⟩
        have := hk ρ1 a1 w1 h3
        show if j = id then _ else _
        rw [if_pos (Nat.eq_of_beq_eq_true hb)]
        exact this
    · rename_i hr
      obtain ⟨e, s⟩ := ih _ _ _ h
      refine ⟨e, s.mono fun h' D ρ ac w Q hs hD hk => wp_block (h' D ρ ac w _ hs hD fun ρ1 a1 w1 h3 => ?_)⟩
      have := hk ρ1 a1 w1 h3
      cases x <;> first | exact absurd h (hr _ _) | exact this
  | loop c ih =>
    intro st x st' h
    simp only [exec] at h
    split at h
    · rename_i slots ids y vals out d r hp
      split at h
      · rename_i vs hvs
        split at h
        · rename_i sn hsn
          cases hb : outOK ids st.nx d out <;> simp only [hb, cond] at h
          · cases h
          · simp only [Option.some.injEq, Prod.mk.injEq] at h
            obtain ⟨rfl, rfl⟩ := h
            have hl := outLog_ok hsn hb
            obtain ⟨h1, h2, h3⟩ := memL_snap hsn
            refine ⟨⟨Nat.le_add_right _ _, rfl, _, rfl, hl.sub h2, rfl⟩, (Sound.pop hp (.lp c st.n vs sn st.nx)).mono fun k D ρ a w Q hs hD hk => ?_⟩
            refine k D ρ a w Q (fun t u hu => hs.fr t u trivial (look_spec hvs t u hu)) hs.size hs.defers (hs.mem.sub h2) hD fun ρ' a' w' hf hsz hdf ha => ?_
            have ha := ha.frame hs.mem h2 hl hD
            exact hk ρ' a' w' ⟨ha.same, ⟨fun t u _ hu => hf t u hu, hsz, hdf, ha.mem⟩, ha.kept, ha.new⟩
        · cases h
      · cases h
    · obtain ⟨e, s, _⟩ := loopN_S (fun st x st' h => ih st x st' h) fuel st x st' h
      exact ⟨e, s.mono fun h' D ρ ac w Q hs hD hk => wp_of_wpL (h' D ρ ac w Q hs hD hk)⟩
  | _ => intro st x st' h; cases h
end Rx
end Go.Proofs.YtilfcikhipadpaaGreatDoor
end

section
/- A run reckoned by the kernel: functions; the theorem that proofs use. No program. -/
set_option linter.unusedVariables false
set_option linter.unusedSimpArgs false
namespace Go.Proofs.YtilfcikhipadpaaGreatDoor
open Go.RowKit Go.Lib
namespace Rx
variable {P : Program} {A : Amb}

def resF (tmps : Array Value) : ResultVar → Sem Value
  | .tmp t => pure (tmps.getD t undef)
  | .cell p t => do loadVar t (← asAddr (tmps.getD p undef))
theorem resA_run {D : Nat → Prop} {ρ : Nm} {e : Env} {m : Mem} {a : Act} {w : World} (hf : FrOK D ρ (fun _ => True) e a) (hm : MemOK P A D ρ m w) : ∀ (rs : List ResultVar) (vs : List Value), resA P e m rs = some vs → vs.all notTuple = true →
    (rs.mapM (resF a.tmps)).run P w = .ok (vs.map (ren ρ)) w ∧ ∀ v ∈ vs, Fit D v
  | [], vs, h, _ => by
    simp only [resA, Option.some.injEq] at h
    subst h
    exact ⟨rfl, fun _ h => by cases h⟩
  | .tmp t :: rs, vs, h, hn => by
    simp only [resA] at h
    split at h
    · rename_i v hv
      split at h
      · rename_i us hus
        simp only [Option.some.injEq] at h
        subst h
        simp only [List.all_cons, Bool.and_eq_true] at hn
        obtain ⟨h1, h2⟩ := resA_run hf hm rs us hus hn.2
        obtain ⟨h3, h4⟩ := hf t v trivial hv
        refine ⟨?_, fun u hu => ?_⟩
        · rw [List.mapM_cons]
          have : (resF a.tmps (.tmp t)).run P w = .ok (ren ρ v) w := by
            have := eval_tmp h3
            simp only [Act.eval] at this
            simp only [resF]
            rw [this]; rfl
          rw [run_bind_ok this, run_bind_ok h1]
          rfl
        · rcases List.mem_cons.1 hu with rfl | hu
          · exact h4
          · exact h2 u hu
      · cases h
    · cases h
  | .cell p t :: rs, vs, h, hn => by
    simp only [resA] at h
    split at h
    · rename_i q hq
      split at h
      · rename_i v hv
        split at h
        · rename_i us hus
          simp only [Option.some.injEq] at h
          subst h
          simp only [List.all_cons, Bool.and_eq_true] at hn
          obtain ⟨h1, h2⟩ := resA_run hf hm rs us hus hn.2
          obtain ⟨ad, rfl, h5, h6, _⟩ := loadA_run hm hv
          obtain ⟨h3, h4⟩ := hf p _ trivial hq
          refine ⟨?_, fun u hu => ?_⟩
          · rw [List.mapM_cons]
            have h7 : (asAddr (a.tmps.getD p undef) : Sem Addr).run P w = .ok (renA ρ ad) w := by
              have := eval_tmp h3
              simp only [Act.eval] at this
              rw [this]; rfl
            have h8 : (resF a.tmps (.cell p t)).run P w = .ok (ren ρ v) w := by
              simp only [resF]
              rw [run_bind_ok h7]; exact h5
            rw [run_bind_ok h8, run_bind_ok h1]
            rfl
          · rcases List.mem_cons.1 hu with rfl | hu
            · exact h6
            · exact h2 u hu
        · cases h
      · cases h
    · cases h
theorem ren_one {ρ : Nm} {vs : List Value} (h : vs.all notTuple = true) : (if hs : (vs.map (ren ρ)).toArray.size = 1 then (vs.map (ren ρ)).toArray[0] else .tuple (vs.map (ren ρ)).toArray) = ren ρ (one vs) := by
  match vs, h with
  | [], _ => rfl
  | [v], _ => rfl
  | a :: b :: c, h =>
    have : (a :: b :: c).map (ren ρ) = (a :: b :: c).map (ren1 ρ) := List.map_congr_left fun v hv => ren_notTuple (List.all_eq_true.1 h v hv)
    rw [dif_neg (by simp)]
    simp only [one, ren]
    rw [this]
theorem results_run {fn : Func} {D : Nat → Prop} {ρ : Nm} {e : Env} {m : Mem} {a : Act} {w : World} (hf : FrOK D ρ (fun _ => True) e a) (hm : MemOK P A D ρ m w) {vs : List Value} (h : resA P e m fn.results.toList = some vs) (hn : vs.all notTuple = true) :
    (results fn a.tmps).run P w = .ok (ren ρ (one vs)) w ∧ Fit D (one vs) := by
  obtain ⟨h1, h2⟩ := resA_run hf hm _ _ h hn
  refine ⟨?_, Fit.one fun v hv => ⟨h2 v hv, List.all_eq_true.1 hn v hv⟩⟩
  have h3 : (fn.results.mapM (resF a.tmps)).run P w = .ok (vs.map (ren ρ)).toArray w := by
    rw [Array.mapM_eq_mapM_toList, Sem.run_map, h1]
    rfl
  have h4 : results fn a.tmps = (fn.results.mapM (resF a.tmps) >>= fun vs => pure (if h : vs.size = 1 then vs[0] else .tuple vs)) := by
    unfold results
    rfl
  rw [h4, run_bind_ok h3, ← ren_one hn]
  rfl
theorem maxN_eq (a b : Nat) : maxN a b = max a b := by
  unfold maxN
  cases h : Nat.ble a b <;> simp only [cond]
  · have := Nat.not_le_of_not_ble_eq_true (by rw [h]; exact Bool.false_ne_true); omega
  · have := Nat.le_of_ble_eq_true h; omega
theorem callN_S (hm : P.follows .mixedOrders = true) : ∀ k, CallS P A (callN P k)
  | 0 => fun f args m nx ts out h => by cases h
  | k + 1 => fun f args m nx ts out h => by
    simp only [callN] at h
    split at h
    · rename_i fn hfn
      split at h
      · rename_i c hbody
        split at h
        · cases h
        · rename_i x st hne hx
          split at h
          · rename_i vs hvs
            cases hb : vs.all notTuple <;> simp only [hb, cond] at h
            · cases h
            · simp only [Option.some.injEq] at h
              subst h
              obtain ⟨e, s⟩ := exec_S (A := A) hm (callN_S hm k) k c _ x st hx
              obtain ⟨l, e1, e2, e3⟩ := e.mem
              have e3 : st.log = l := by rw [e3]; simp
              refine ⟨e.nx, by rw [e3]; exact e2, rfl, s.mono fun h' D ρ w hmem hargs hD => ?_⟩
              refine calls_of_wp hfn hbody (h' D ρ _ w _ ⟨fun t u _ hu => ?_, ?_, rfl, hmem⟩ hD fun ρ' a' w' k' => ?_)
              · simp only [env0] at hu
                split at hu
                · rename_i v hv
                  simp only [Option.some.injEq] at hu
                  subst hu
                  refine ⟨?_, hargs _ (List.mem_of_getElem? hv)⟩
                  have hlt := (List.getElem?_eq_some_iff.1 hv).1
                  simp [Array.getElem?_append, hlt, (List.getElem?_eq_some_iff.1 hv).2]
                · rename_i hv
                  cases hb2 : Nat.blt t fn.ntmps <;> simp only [hb2, cond] at hu
                  · cases hu
                  · simp only [Option.some.injEq] at hu
                    subst hu
                    refine ⟨?_, Fit.real rfl⟩
                    have h1 : args.length ≤ t := List.getElem?_eq_none_iff.1 hv
                    have h2 : t < fn.ntmps := by simpa [Nat.blt_eq] using hb2
                    rw [Array.getElem?_append_right (by simpa using h1)]
                    simp only [List.size_toArray, List.length_map]
                    rw [Array.getElem?_replicate, if_pos (by omega)]
                    rfl
              · simp [maxN_eq]; omega
              · have hr := results_run k'.ok.fr k'.ok.mem hvs hb
                have hend : bodyPost P fn (fun e w' => ∃ ρ', e = .returned (ren ρ' (one vs)) ∧ Aft P A D ρ m nx w (one vs) st.log st.nx ρ' w') .normal a' w' := by
                  refine ⟨k'.ok.defers, _, hr.1, ρ', rfl, k'.same, hr.2, ?_, k'.kept, fun i b h1 h2 h3 => k'.new i b h1 h2 (by rw [e1, ← e3]; exact h3)⟩
                  have := k'.ok.mem
                  rw [e1, ← e3] at this
                  exact this
                cases x with
                | nrm => exact hend
                | ret => exact hend
                | ex id => exact (hne id rfl).elim
          · cases h
        · cases h
      · cases h
    · cases h

/-- a question with its answer, and why it is right -/
structure Ev (P : Program) (A : Amb) where
  at_ : Nat
  ans : Ans
  key : Key
  ok : okP P A ans key
def asOf (evs : List (Ev P A)) : List (Nat × Ans) := evs.map fun e => (e.at_, e.ans)
def keysOf (evs : List (Ev P A)) : List Key := evs.map (·.key)
theorem ok_all {evs : List (Ev P A)} : ∀ {l : List ((Nat × Ans) × Key)}, asOf evs = l.map (·.1) → keysOf evs = l.map (·.2) → ∀ p ∈ l, okP P A p.1.2 p.2 := by
  induction evs with
  | nil => intro l h1 _ p hp; cases l with
    | nil => cases hp
    | cons x l => cases h1
  | cons e evs ih => intro l h1 h2 p hp; cases l with
    | nil => cases hp
    | cons x l =>
      simp only [asOf, keysOf, List.map_cons, List.cons.injEq] at h1 h2
      rcases List.mem_cons.1 hp with rfl | hp
      · rw [← h1.1, ← h2.1]; exact e.ok
      · exact ih h1.2 h2.2 p hp
def yes (n : Nat) {b : Bool} (h : b = true) : Ev P A := ⟨n, .br true, .b b, h⟩
def no (n : Nat) {b : Bool} (h : b = false) : Ev P A := ⟨n, .br false, .b b, h⟩
def does (n : Nat) {f : FuncId} {args : List Value} {v : Value} (h : ∀ W, A.S W → Calls P f args.toArray W (Ret v W)) : Ev P A := ⟨n, .call v, .c f args, h⟩
def reads (n : Nat) (ids : List Nat) {f : FuncId} {args : List Value} {sn : List (Nat × Blk)} {v : Value} (h : ∀ (ρ : Nm) (W : World), A.S W → (∀ e ∈ sn, Lies ρ W (ρ e.1).1 e.2.1 e.2.2.1 (P.cellsOf e.2.2.1) (ρ e.1).2 e.2.2.2) → Calls P f (args.map (ren ρ)).toArray W (Ret v W)) : Ev P A := ⟨n, .callR ids v, .cr f args sn, h⟩
def gives (n : Nat) {s : Sem Next} {v : Value} (h : ∀ W, A.S W → s.run P W = .ok (.value v) W) : Ev P A := ⟨n, .op v, .s s, h⟩
def is (n : Nat) {x y : Value} (h : x = y) : Ev P A := ⟨n, .eq y, .v x, h⟩
def isT (n : Nat) {b : Bool} (h : b = true) : Ev P A := is n (x := .bool b) (y := .bool true) (congrArg _ h)
def isF (n : Nat) {b : Bool} (h : b = false) : Ev P A := is n (x := .bool b) (y := .bool false) (congrArg _ h)
/-- what a run says: the value, what of the answers is left, the questions -/
def res (P : Program) (f : FuncId) (args : List Value) (qs : List (Nat × Ans)) : Option (Value × List (Nat × Ans) × List Key) :=
  match go P f args qs with
  | some ⟨v, _, _, ts⟩ => some (v, ts.qs, ts.ks)
  | none => none
/-- THE THEOREM: what the kernel reckons of a way is what the call does. -/
theorem run {w0 : World} {f : FuncId} {args : List Value} {v : Value} (evs : List (Ev P (Amb.of w0))) (h : res P f args (asOf evs) = some (v, [], (keysOf evs).reverse) := by kernel_rfl) (hm : P.follows .mixedOrders = true := by kernel_rfl) (ha : args.all real = true := by kernel_rfl) (hv : real v = true := by kernel_rfl) :
    Calls P f args.toArray w0 (Ret v w0) := by
  unfold res at h
  split at h
  · rename_i v' l nx ts hgo
    simp only [Option.some.injEq, Prod.mk.injEq] at h
    obtain ⟨rfl, h1, h2⟩ := h
    obtain ⟨_, _, _, tr, ⟨t1, t2⟩, hs⟩ := callN_S (A := Amb.of w0) hm fuel0 f args _ 0 ⟨0, asOf evs, []⟩ _ hgo
    have t1 : asOf evs = tr.map (·.1) := by rw [h1] at t1; simpa using t1
    have t2 : keysOf evs = tr.map (·.2) := by
      rw [h2] at t2
      have := congrArg List.reverse t2
      simpa using this
    have hc := hs (ok_all t1 t2) (fun _ => False) (fun _ => (0, 0)) w0 ⟨Below.refl _ _, fun {i b} h => (by cases h), fun {i cs T r} h => (by cases h), fun {i cs T r} h => (by cases h), fun {i j b c} h => (by cases h)⟩ (fun u hu => Fit.real (List.all_eq_true.1 ha u hu)) (fun _ h => h.elim)
    rw [ren_list_real ha] at hc
    refine hc.mono ?_
    rintro e w' ⟨ρ', rfl, k⟩
    exact ⟨by rw [ren_real hv], k.mem.s⟩
  · cases h
end Rx
end Go.Proofs.YtilfcikhipadpaaGreatDoor
end

section
/- A run reckoned by the kernel: what calls and pieces of code do with blocks that are there: contracts, and loops. No program. -/
set_option linter.unusedVariables false
set_option linter.unusedSimpArgs false
namespace Go.Proofs.YtilfcikhipadpaaGreatDoor
open Go.RowKit Go.Lib
namespace Rx
variable {P : Program} {A : Amb}

/-! ### which names are in a value -/
def inA (p : Nat → Bool) : Option Addr → Bool
  | some ⟨b, _, some _⟩ => p b
  | _ => true
def inS (p : Nat → Bool) : Value → Bool
  | .pointer a => inA p a
  | .slice a _ _ => inA p a
  | _ => true
def in0 (p : Nat → Bool) : Value → Bool
  | .func _ x y => x.toList.all (inS p) && y.toList.all (inS p)
  | v => inS p v
def in1 (p : Nat → Bool) : Value → Bool
  | .agg cs => cs.toList.all (in0 p)
  | v => in0 p v
def inP (p : Nat → Bool) : Value → Bool
  | .tuple vs => vs.toList.all (in1 p)
  | v => in1 p v
theorem renS_in {p : Nat → Bool} {v : Value} (h : inS p v = true) {ρ ρ' : Nm} (k : ∀ i, p i = true → ρ i = ρ' i) : renS ρ v = renS ρ' v := by
  cases v <;> try rfl
  case pointer a =>
    cases a with
    | none => rfl
    | some a =>
      obtain ⟨b, o, s⟩ := a
      cases s with
      | none => rfl
      | some s =>
        have : p b = true := h
        simp only [renS, renA, k b this]
  case slice a m c =>
    cases a with
    | none => rfl
    | some a =>
      obtain ⟨b, o, s⟩ := a
      cases s with
      | none => rfl
      | some s =>
        have : p b = true := h
        have k := k b this
        match s with
        | 0 => simp only [renS, renB, capA, k]
        | 1 => simp only [renS, renB, capA, k]
        | 2 => simp only [renS, renB, capA, k]
        | s + 3 => simp only [renS, renB, capA, k]
theorem map_in {f f' : Value → Value} {p : Value → Bool} (hf : ∀ v, p v = true → f v = f' v) {xs : Array Value} (h : xs.toList.all p = true) : (xs.toList.map f).toArray = (xs.toList.map f').toArray := by
  rw [List.map_congr_left (fun v hv => hf v (List.all_eq_true.1 h v hv))]
theorem ren0_inP {p : Nat → Bool} {v : Value} (h : in0 p v = true) {ρ ρ' : Nm} (k : ∀ i, p i = true → ρ i = ρ' i) : ren0 ρ v = ren0 ρ' v := by
  cases v
  case func f x y =>
    simp only [in0, Bool.and_eq_true] at h
    simp only [ren0]
    rw [map_in (fun v hv => renS_in hv k) h.1, map_in (fun v hv => renS_in hv k) h.2]
  all_goals (first | rfl | (simp only [ren0, in0] at h ⊢; exact renS_in h k))
theorem ren1_in {p : Nat → Bool} {v : Value} (h : in1 p v = true) {ρ ρ' : Nm} (k : ∀ i, p i = true → ρ i = ρ' i) : ren1 ρ v = ren1 ρ' v := by
  cases v
  case agg cs =>
    simp only [ren1]
    rw [map_in (fun v hv => ren0_inP hv k) h]
  all_goals (first | rfl | (simp only [ren1, in1] at h ⊢; exact ren0_inP h k))
theorem ren_inP {p : Nat → Bool} {v : Value} (h : inP p v = true) {ρ ρ' : Nm} (k : ∀ i, p i = true → ρ i = ρ' i) : ren ρ v = ren ρ' v := by
  cases v
  case tuple vs =>
    simp only [ren]
    rw [map_in (fun v hv => ren1_in hv k) h]
  all_goals (first | rfl | (simp only [ren, inP] at h ⊢; exact ren1_in h k))
theorem Fit.of_inP {p : Nat → Bool} {v : Value} (h : inP p v = true) : Fit (fun i => p i = true) v := fun _ _ k => ren_inP h k
theorem Fit0.of_inP {p : Nat → Bool} {v : Value} (h : in0 p v = true) : Fit0 (fun i => p i = true) v := fun _ _ k => ren0_inP h k
def ltB (n : Nat) (b : Nat) : Bool := Nat.blt b n
theorem ltB_iff {n b : Nat} : ltB n b = true ↔ b < n := by simp [ltB, Nat.blt_eq]
def inV (n : Nat) : Value → Bool := inP (ltB n)
def inC (n : Nat) : Value → Bool := in0 (ltB n)
theorem ren_in {n : Nat} {v : Value} (h : inV n v = true) {ρ ρ' : Nm} (k : ∀ i, i < n → ρ i = ρ' i) : ren ρ v = ren ρ' v := ren_inP h fun i hi => k i (ltB_iff.1 hi)
theorem ren0_in {n : Nat} {v : Value} (h : inC n v = true) {ρ ρ' : Nm} (k : ∀ i, i < n → ρ i = ρ' i) : ren0 ρ v = ren0 ρ' v := ren0_inP h fun i hi => k i (ltB_iff.1 hi)
theorem Fit.of_in {n : Nat} {v : Value} (h : inV n v = true) : Fit (fun i => i < n) v := fun _ _ k => ren_in h k
theorem Fit0.of_in {n : Nat} {v : Value} (h : inC n v = true) : Fit0 (fun i => i < n) v := fun _ _ k => ren0_in h k
open Classical in
theorem Fit.inter {D E : Nat → Prop} {v : Value} (h : Fit D v) (k : Fit E v) : Fit (fun i => D i ∧ E i) v := fun ρ ρ' hk => by
  refine (h ρ (fun i => if D i then ρ i else ρ' i) fun i hi => by simp [hi]).trans (k _ ρ' fun i hi => ?_)
  by_cases hd : D i
  · simp only [hd, if_true]; exact hk i ⟨hd, hi⟩
  · simp [hd]
open Classical in
theorem Fit0.inter {D E : Nat → Prop} {v : Value} (h : Fit0 D v) (k : Fit0 E v) : Fit0 (fun i => D i ∧ E i) v := fun ρ ρ' hk => by
  refine (h ρ (fun i => if D i then ρ i else ρ' i) fun i hi => by simp [hi]).trans (k _ ρ' fun i hi => ?_)
  by_cases hd : D i
  · simp only [hd, if_true]; exact hk i ⟨hd, hi⟩
  · simp [hd]

/-! ### memories as lists -/
theorem add_none : ∀ (l : List (Nat × Blk)) (m : Mem) (i : Nat) (b : Blk), m.add (l.map (fun e => (e.1, (none : Option Blk)))) i = some b → m i = some b ∧ ∀ e ∈ l, e.1 ≠ i
  | [], m, i, b, h => ⟨h, fun _ h => by cases h⟩
  | e :: l, m, i, b, h => by
    simp only [List.map_cons, Mem.add, Mem.put] at h
    cases hij : Nat.beq i e.1 <;> simp only [hij, cond] at h
    · obtain ⟨h1, h2⟩ := add_none l m i b h
      refine ⟨h1, fun x hx => ?_⟩
      rcases List.mem_cons.1 hx with rfl | hx
      · exact fun e => Nat.ne_of_beq_eq_false hij e.symm
      · exact h2 x hx
    · cases h
theorem memL_mem : ∀ {l : List (Nat × Blk)} {i : Nat} {b : Blk}, memL l i = some b → (i, b) ∈ l
  | [], i, b, h => by cases h
  | e :: l, i, b, h => by
    obtain ⟨j, c⟩ := e
    simp only [memL, Mem.put] at h
    cases hij : Nat.beq i j <;> simp only [hij, cond] at h
    · exact List.mem_cons_of_mem _ (memL_mem h)
    · simp only [Option.some.injEq] at h
      rw [Nat.eq_of_beq_eq_true hij, h]; simp
theorem outLog_eq (sn out : List (Nat × Blk)) : (memL sn).add (outLog sn out) = memL out := by
  have h0 : ∀ i, (memL sn).add (sn.map (fun e => (e.1, (none : Option Blk)))) i = none := fun i => by
    cases h : (memL sn).add (sn.map (fun e => (e.1, (none : Option Blk)))) i with
    | none => rfl
    | some b =>
      obtain ⟨h1, h2⟩ := add_none sn (memL sn) i b h
      exact absurd rfl (h2 _ (memL_mem h1))
  unfold outLog
  rw [← add_append]
  generalize (memL sn).add (sn.map (fun e => (e.1, (none : Option Blk)))) = m at h0
  induction out with
  | nil => funext i; exact h0 i
  | cons e out ih =>
    simp only [List.map_cons, Mem.add, memL]
    rw [ih]
theorem Aft.sub {D : Nat → Prop} {ρ ρ' : Nm} {m : Mem} {nx nx' : Nat} {w w' : World} {v : Value} {l l' : Log} (k : Aft P A D ρ m nx w v l nx' ρ' w') (hs : ∀ i b, m.add l' i = some b → m.add l i = some b) : Aft P A D ρ m nx w v l' nx' ρ' w' :=
  ⟨k.same, k.fit, k.mem.sub hs, k.kept, fun i b h1 h2 e => k.new i b h1 h2 (hs _ _ e)⟩

/-! ### a contract of a function, reckoned by the kernel -/
def resM (P : Program) (f : FuncId) (args : List Value) (sn : List (Nat × Blk)) (nx : Nat) (qs : List (Nat × Ans)) (ids : List Nat) : Option (Value × List (Nat × Blk) × Nat × List (Nat × Ans) × List Key) :=
  match callN P fuel0 f args (memL sn) nx ⟨0, qs, []⟩ with
  | some ⟨v, log, nx', ts⟩ => match snapA ((memL sn).add log) ids with
    | some out => some (v, out, nx', ts.qs, ts.ks)
    | none => none
  | none => none
theorem con {f : FuncId} {args : List Value} {sn : List (Nat × Blk)} {nx : Nat} {v : Value} {out : List (Nat × Blk)} {nx' : Nat} (evs : List (Ev P A)) (h : resM P f args sn nx (asOf evs) (out.map (·.1)) = some (v, out, nx', [], (keysOf evs).reverse) := by kernel_rfl) (hm : P.follows .mixedOrders = true := by kernel_rfl) :
    CallJ P A f args sn nx v out nx' := by
  unfold resM at h
  split at h
  · rename_i v' l nx1 ts hgo
    split at h
    · rename_i out' hsn
      simp only [Option.some.injEq, Prod.mk.injEq] at h
      obtain ⟨rfl, rfl, rfl, h1, h2⟩ := h
      obtain ⟨_, _, _, tr, ⟨t1, t2⟩, hs⟩ := callN_S (A := A) hm fuel0 f args _ nx ⟨0, asOf evs, []⟩ _ hgo
      have t1 : asOf evs = tr.map (·.1) := by rw [h1] at t1; simpa using t1
      have t2 : keysOf evs = tr.map (·.2) := by
        rw [h2] at t2
        have := congrArg List.reverse t2
        simpa using this
      have hc := hs (ok_all t1 t2)
      intro D ρ w hmem hf hd
      refine (hc D ρ w hmem hf hd).mono ?_
      rintro e w' ⟨ρ', rfl, k⟩
      refine ⟨ρ', rfl, k.sub fun i b hi => ?_⟩
      rw [outLog_eq] at hi
      exact (memL_snap hsn).2.1 i b hi
    · cases h
  · cases h

/-! ### pieces of code -/
def resC (P : Program) (c : Code) (n : Nat) (vals : List (Nat × Value)) (sn : List (Nat × Blk)) (nx : Nat) (qs : List (Nat × Ans)) (slots ids : List Nat) : Option (X × List (Nat × Value) × List (Nat × Blk) × Nat × List (Nat × Ans) × List Key) :=
  match exec P (callN P fuel0) fuel0 c ⟨envL vals, n, memL sn, [], nx, ⟨0, qs, []⟩⟩ with
  | some (x, st) => match look st.env slots with
    | some vs => match snapA st.mem ids with
      | some out => some (x, vs, out, st.nx, st.ts.qs, st.ts.ks)
      | none => none
    | none => none
  | none => none
theorem code {c : Code} {n : Nat} {vals vals' : List (Nat × Value)} {sn out : List (Nat × Blk)} {nx nx' : Nat} {x : X} (evs : List (Ev P A)) (h : resC P c n vals sn nx (asOf evs) (vals'.map (·.1)) (out.map (·.1)) = some (x, vals', out, nx', [], (keysOf evs).reverse) := by kernel_rfl) (hm : P.follows .mixedOrders = true := by kernel_rfl) :
    CodeJ P A c n vals sn nx x vals' out nx' := by
  unfold resC at h
  split at h
  · rename_i x' st hgo
    split at h
    · rename_i vs hvs
      split at h
      · rename_i out' hsn
        simp only [Option.some.injEq, Prod.mk.injEq] at h
        obtain ⟨rfl, rfl, rfl, rfl, h1, h2⟩ := h
        obtain ⟨ex, tr, ⟨t1, t2⟩, hs⟩ := exec_S (A := A) hm (callN_S hm fuel0) fuel0 c _ _ _ hgo
        have t1 : asOf evs = tr.map (·.1) := by rw [h1] at t1; simpa using t1
        have t2 : keysOf evs = tr.map (·.2) := by
          rw [h2] at t2
          have := congrArg List.reverse t2
          simpa using this
        have hc := hs (ok_all t1 t2)
        intro D ρ a w Q hf hsz hdf hmem hd hk
        refine hc D ρ a w Q ⟨fun t u _ hu => hf t u hu, hsz, hdf, hmem⟩ hd fun ρ' a' w' k => hk ρ' a' w' (fun t u hu => k.ok.fr t u trivial (look_spec hvs t u hu)) (k.ok.size.trans ex.n) k.ok.defers ?_
        refine ⟨k.same, Fit.real rfl, k.ok.mem.sub fun i b hi => ?_, k.kept, fun i b h1 h2 hi => k.new i b h1 h2 ?_⟩
        · rw [outLog_eq] at hi
          exact (memL_snap hsn).2.1 i b hi
        · rw [outLog_eq] at hi
          exact (memL_snap hsn).2.1 i b hi
      · cases h
    · cases h
  · cases h
def inVals (n : Nat) (l : List (Nat × Value)) : Bool := l.all fun e => inV n e.2
def inBlks (n : Nat) (l : List (Nat × Blk)) : Bool := l.all fun e => Nat.blt e.1 n && e.2.1.all (inC n)
theorem envL_mem : ∀ {l : List (Nat × Value)} {t : Nat} {u : Value}, envL l t = some u → (t, u) ∈ l
  | [], _, _, h => by cases h
  | e :: l, i, b, h => by
    obtain ⟨j, c⟩ := e
    simp only [envL, Env.put] at h
    cases hij : Nat.beq i j <;> simp only [hij, cond] at h
    · exact List.mem_cons_of_mem _ (envL_mem h)
    · simp only [Option.some.injEq] at h
      rw [Nat.eq_of_beq_eq_true hij, h]; simp
theorem inBlks_spec {n : Nat} {l : List (Nat × Blk)} (h : inBlks n l = true) {i : Nat} {cs : List Value} {T : TypeId} {r : Bool} (k : memL l i = some (cs, T, r)) : i < n ∧ ∀ v ∈ cs, inC n v = true := by
  have := List.all_eq_true.1 h _ (memL_mem k)
  simp only [Bool.and_eq_true] at this
  exact ⟨by simpa [Nat.blt_eq] using this.1, fun v hv => List.all_eq_true.1 this.2 v hv⟩
/-- the names of a piece's own blocks are free again, if none of them is left -/
theorem CodeJ.drop {c : Code} {n : Nat} {vals vals' : List (Nat × Value)} {sn out : List (Nat × Blk)} {nx nx' : Nat} {x : X} (h : CodeJ P A c n vals sn nx x vals' out nx')
    (h1 : inVals nx vals = true := by kernel_rfl) (h2 : inBlks nx sn = true := by kernel_rfl) (h3 : inVals nx vals' = true := by kernel_rfl) (h4 : inBlks nx out = true := by kernel_rfl) : CodeJ P A c n vals sn nx x vals' out nx := by
  intro D ρ a w Q hf hsz hdf hmem hd hk
  have fv : ∀ {l : List (Nat × Value)}, inVals nx l = true → ∀ {t u}, envL l t = some u → Fit (fun i => i < nx) u := fun {l} hl {t u} hu => Fit.of_in (List.all_eq_true.1 hl _ (envL_mem hu))
  refine h (fun i => D i ∧ i < nx) ρ a w Q (fun t u hu => ⟨(hf t u hu).1, (hf t u hu).2.inter (fv h1 hu)⟩) hsz hdf
    ⟨hmem.s, fun {i b} e => ⟨⟨(hmem.dom e).1, (inBlks_spec h2 (cs := b.1) (T := b.2.1) (r := b.2.2) e).1⟩, (hmem.dom e).2⟩, fun {i cs T r} e v hv => (hmem.fit e v hv).inter (Fit0.of_in ((inBlks_spec h2 e).2 v hv)), hmem.lies, hmem.inj⟩
    (fun i hi k => by omega) fun ρ' a' w' hf' hsz' hdf' k => ?_
  have hρ : ∀ i, i < nx → ρ' i = ρ i := fun i hi => k.same i (by omega)
  have kin : ∀ {i : Nat} {b : Blk}, (memL sn).add (outLog sn out) i = some b → i < nx ∧ ∀ v ∈ b.1, inC nx v = true := fun {i b} e => by
    rw [outLog_eq] at e
    exact inBlks_spec h4 (cs := b.1) (T := b.2.1) (r := b.2.2) e
  refine hk ρ a' w' (fun t u hu => ?_) hsz' hdf' ⟨fun _ _ => rfl, Fit.real rfl, ⟨k.mem.s, fun {i b} e => ?_, fun {i cs T r} e v hv => ?_, fun {i cs T r} e => ?_, fun {i j b c} e f hij => ?_⟩, k.kept, fun i b h1 h2 => by omega⟩
  · have e1 := hf' t u hu
    refine ⟨by rw [e1.1]; exact congrArg some (fv h3 hu ρ' ρ fun i hi => hρ i hi), (e1.2.inter (fv h3 hu)).mono fun i hi => ?_⟩
    obtain ⟨(hi | hi), hlt⟩ := hi
    · exact Or.inl hi.1
    · omega
  · have hlt := (kin e).1
    have := k.mem.dom e
    rw [hρ i hlt] at this
    refine ⟨?_, this.2⟩
    rcases this.1 with hi | hi
    · exact Or.inl hi.1
    · omega
  · refine ((k.mem.fit e v hv).inter (Fit0.of_in ((kin e).2 v hv))).mono fun i hi => ?_
    obtain ⟨(hi | hi), hlt⟩ := hi
    · exact Or.inl hi.1
    · omega
  · have := k.mem.lies e
    rw [hρ i (kin e).1] at this
    exact this.ren (D := fun i => i < nx) (fun v hv => Fit0.of_in ((kin e).2 v hv)) hρ
  · have := k.mem.inj e f hij
    rwa [hρ i (kin e).1, hρ j (kin f).1] at this

/-- the names of a call's own blocks are free again, if none of them is left -/
theorem CallJ.drop {f : FuncId} {args : List Value} {sn out : List (Nat × Blk)} {nx nx' : Nat} {v : Value} (h : CallJ P A f args sn nx v out nx')
    (h1 : args.all (inV nx) = true := by kernel_rfl) (h2 : inBlks nx sn = true := by kernel_rfl) (h3 : inV nx v = true := by kernel_rfl) (h4 : inBlks nx out = true := by kernel_rfl) : CallJ P A f args sn nx v out nx := by
  intro D ρ w hmem hf hd
  refine (h (fun i => D i ∧ i < nx) ρ w
    ⟨hmem.s, fun {i b} e => ⟨⟨(hmem.dom e).1, (inBlks_spec h2 (cs := b.1) (T := b.2.1) (r := b.2.2) e).1⟩, (hmem.dom e).2⟩, fun {i cs T r} e v hv => (hmem.fit e v hv).inter (Fit0.of_in ((inBlks_spec h2 e).2 v hv)), hmem.lies, hmem.inj⟩
    (fun u hu => (hf u hu).inter (Fit.of_in (List.all_eq_true.1 h1 u hu))) (fun i hi k => by omega)).mono ?_
  rintro e w' ⟨ρ', rfl, k⟩
  have hρ : ∀ i, i < nx → ρ' i = ρ i := fun i hi => k.same i (by omega)
  have kin : ∀ {i : Nat} {b : Blk}, (memL sn).add (outLog sn out) i = some b → i < nx ∧ ∀ v ∈ b.1, inC nx v = true := fun {i b} e => by
    rw [outLog_eq] at e
    exact inBlks_spec h4 (cs := b.1) (T := b.2.1) (r := b.2.2) e
  refine ⟨ρ, congrArg Ending.returned (ren_in h3 hρ), fun _ _ => rfl, ?_, ⟨k.mem.s, fun {i b} e => ?_, fun {i cs T r} e v hv => ?_, fun {i cs T r} e => ?_, fun {i j b c} e f hij => ?_⟩, k.kept, fun i b h1 h2 => by omega⟩
  · refine (k.fit.inter (Fit.of_in h3)).mono fun i hi => ?_
    obtain ⟨(hi | hi), hlt⟩ := hi
    · exact Or.inl hi.1
    · omega
  · have hlt := (kin e).1
    have := k.mem.dom e
    rw [hρ i hlt] at this
    refine ⟨?_, this.2⟩
    rcases this.1 with hi | hi
    · exact Or.inl hi.1
    · omega
  · refine ((k.mem.fit e v hv).inter (Fit0.of_in ((kin e).2 v hv))).mono fun i hi => ?_
    obtain ⟨(hi | hi), hlt⟩ := hi
    · exact Or.inl hi.1
    · omega
  · have := k.mem.lies e
    rw [hρ i (kin e).1] at this
    exact this.ren (D := fun i => i < nx) (fun v hv => Fit0.of_in ((kin e).2 v hv)) hρ
  · have := k.mem.inj e f hij
    rwa [hρ i (kin e).1, hρ j (kin f).1] at this

/-! ### loops -/
def stJ (n : Nat) (vals : List (Nat × Value)) (sn : List (Nat × Blk)) (log : Log) (nx : Nat) : St := ⟨envL vals, n, memL sn, log, nx, ⟨0, [], []⟩⟩
theorem CodeJ.trans_aft {n : Nat} {v1 v2 : List (Nat × Value)} {s0 s1 s2 : List (Nat × Blk)} {n0 n1 n2 : Nat} {D : Nat → Prop} {ρ ρ1 ρ2 : Nm} {a1 a2 : Act} {w w1 w2 : World} (hn1 : n0 ≤ n1) (hn2 : n1 ≤ n2)
    (l1 : LogOK (memL s0) n0 n1 (outLog s0 s1)) (l2 : LogOK (memL s1) n1 n2 (outLog s1 s2)) (hm : MemOK P A D ρ (memL s0) w) (hD : ∀ i, D i → ¬ (n0 ≤ i ∧ i < n2))
    (f1 : FrL (ext D n0 n1) ρ1 v1 a1) (z1 : a1.tmps.size = n) (d1 : a1.defers = []) (k1 : Aft P A D ρ (memL s0) n0 w undef (outLog s0 s1) n1 ρ1 w1)
    (f2 : FrL (ext (ext D n0 n1) n1 n2) ρ2 v2 a2) (z2 : a2.tmps.size = n) (d2 : a2.defers = []) (k2 : Aft P A (ext D n0 n1) ρ1 (memL s1) n1 w1 undef (outLog s1 s2) n2 ρ2 w2) :
    FrL (ext D n0 n2) ρ2 v2 a2 ∧ Aft P A D ρ (memL s0) n0 w undef (outLog s0 s2) n2 ρ2 w2 := by
  have m1 := k1.mem
  have m2 := k2.mem
  rw [outLog_eq] at m1 m2
  have h := StAft.trans (P := P) (A := A) (s0 := stJ n [] s0 [] n0) (s1 := stJ n v1 s1 (outLog s0 s1) n1) (s2 := stJ n v2 s2 (outLog s1 s2 ++ outLog s0 s1) n2) (a1 := a1) (a2 := a2)
    ⟨hn1, rfl, outLog s0 s1, (outLog_eq s0 s1).symm, l1, by simp [stJ]⟩ ⟨hn2, rfl, outLog s1 s2, (outLog_eq s1 s2).symm, l2, rfl⟩ hm hD
    ⟨k1.same, ⟨fun t u _ hu => f1 t u hu, z1, d1, m1⟩, k1.kept, fun i b h1 h2 e => k1.new i b h1 h2 (by rw [outLog_eq]; exact e)⟩
    ⟨k2.same, ⟨fun t u _ hu => f2 t u hu, z2, d2, m2⟩, k2.kept, fun i b h1 h2 e => k2.new i b h1 h2 (by rw [outLog_eq]; exact e)⟩
  refine ⟨fun t u hu => h.ok.fr t u trivial hu, h.same, Fit.real rfl, ?_, h.kept, fun i b h1 h2 e => h.new i b h1 h2 (by rw [outLog_eq] at e; exact e)⟩
  rw [outLog_eq]; exact h.ok.mem
theorem memL_isSome : ∀ {l : List (Nat × Blk)} {i : Nat}, i ∈ l.map (·.1) → (memL l i).isSome = true
  | [], i, h => by cases h
  | e :: l, i, h => by
    obtain ⟨j, c⟩ := e
    simp only [memL, Mem.put]
    cases hij : Nat.beq i j <;> simp only [cond]
    · rcases List.mem_cons.1 h with rfl | h
      · simp at hij
      · exact memL_isSome h
    · rfl
theorem outLog_ok2 {sn out : List (Nat × Blk)} {nx d : Nat} (h : outOK (sn.map (·.1)) nx d out = true) : LogOK (memL sn) nx (nx + d) (outLog sn out) := by
  intro e he
  rcases List.mem_append.1 he with he | he
  · obtain ⟨x, hx, rfl⟩ := List.mem_map.1 he
    have := List.all_eq_true.1 h x hx
    rw [Bool.or_eq_true, Bool.and_eq_true] at this
    rcases this with h | ⟨h, h'⟩
    · exact Or.inl (memL_isSome (has1_mem h))
    · exact Or.inr ⟨Nat.le_of_ble_eq_true h, by simpa [Nat.blt_eq] using h'⟩
  · obtain ⟨x, hx, rfl⟩ := List.mem_map.1 he
    exact Or.inl (memL_isSome (List.mem_map_of_mem hx))
theorem mem_has1 {l : List Nat} {x : Nat} (h : x ∈ l) : has1 l x = true := List.any_eq_true.2 ⟨x, h, by simp⟩
theorem outOK_same {ids : List Nat} {nx : Nat} {out : List (Nat × Blk)} (h : out.map (·.1) = ids) : outOK ids nx 0 out = true :=
  List.all_eq_true.2 fun e he => by rw [mem_has1 (by rw [← h]; exact List.mem_map_of_mem he)]; rfl
/-- a loop: k rounds, and a last one -/
theorem loopJ {c : Code} {n : Nat} (inv : Nat → List (Nat × Value)) (mem : Nat → List (Nat × Blk)) {nx d : Nat} {x : X} {vals' : List (Nat × Value)} {out : List (Nat × Blk)} (k : Nat) {ids : List Nat}
    (hr : ∀ i, i < k → CodeJ P A c n (inv i) (mem i) nx .nrm (inv (i + 1)) (mem (i + 1)) nx) (he : CodeJ P A c n (inv k) (mem k) nx x vals' out (nx + d))
    (hids : ∀ i, (mem i).map (·.1) = ids := by intro i; rfl) (ho : outOK ids nx d out = true := by kernel_rfl) (hx : x ≠ .nrm := by intro h; cases h) :
    CodeJ P A (.loop c) n (inv 0) (mem 0) nx x vals' out (nx + d) := by
  have key : ∀ (j i : Nat), i + j = k → ∀ (D : Nat → Prop) (ρ : Nm) (a : Act) (w : World) (Q : Exit → Act → World → Prop), FrL D ρ (inv i) a → a.tmps.size = n → a.defers = [] → MemOK P A D ρ (memL (mem i)) w → (∀ i, D i → ¬ (nx ≤ i ∧ i < nx + d)) →
      (∀ ρ' a' w', FrL (ext D nx (nx + d)) ρ' vals' a' → a'.tmps.size = n → a'.defers = [] → Aft P A D ρ (memL (mem i)) nx w undef (outLog (mem i) out) (nx + d) ρ' w' → Q (exitOf x) a' w') → wpL P c Q a w := by
    intro j
    induction j with
    | zero =>
      intro i hi D ρ a w Q hf hsz hdf hm hd hk
      rw [Nat.add_zero] at hi
      subst hi
      refine wpL_step (he D ρ a w _ hf hsz hdf hm hd fun ρ' a' w' g1 g2 g3 g4 => ?_)
      have := hk ρ' a' w' g1 g2 g3 g4
      cases x <;> first | exact absurd rfl hx | exact this
    | succ j ih =>
      intro i hi D ρ a w Q hf hsz hdf hm hd hk
      refine wpL_step (hr i (by omega) D ρ a w _ hf hsz hdf hm (fun i _ h => by omega) fun ρ1 a1 w1 g1 g2 g3 g4 => ?_)
      have m1 := g4.mem
      rw [outLog_eq] at m1
      refine ih (i + 1) (by omega) _ ρ1 a1 w1 Q g1 g2 g3 m1 (fun i hi h => ?_) fun ρ2 a2 w2 q1 q2 q3 q4 => ?_
      · rcases hi with hi | hi
        · exact hd i hi h
        · omega
      · obtain ⟨t1, t2⟩ := CodeJ.trans_aft (n := n) (Nat.le_refl _) (Nat.le_add_right _ _) (outLog_ok2 (d := 0) (by rw [hids]; exact outOK_same (hids (i + 1)))) (outLog_ok2 (by rw [hids]; exact ho)) hm hd g1 g2 g3 g4 q1 q2 q3 q4
        exact hk ρ2 a2 w2 t1 q2 q3 t2
  intro D ρ a w Q hf hsz hdf hm hd hk
  exact wp_of_wpL (key k 0 (by omega) D ρ a w Q hf hsz hdf hm hd hk)
end Rx
end Go.Proofs.YtilfcikhipadpaaGreatDoor
end
