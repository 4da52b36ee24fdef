/- Several texts of this claim, one behind the other. -/
import Derived.Test.YtedfdphapcanoaaGreatDoorM7

section
/- A run reckoned by the kernel: the theorem on regions that draw their order. No program. -/
set_option linter.unusedVariables false
set_option linter.unusedSimpArgs false
namespace Go.Proofs.YtedfdphapcanoaaGreatDoor
open Go.RowKit Go.Lib
namespace Rx
variable {P : Program} {A : Amb}

def viewOf (s : Nat → St) (B : Nat → Nat) (G : Nat → Seg) (i : Nat) : Mem := seesOf (beside (B i) 0 ((List.range i).map G)) (G i).r (s i).mem
def OpC (P : Program) (A : Amb) (ops : Array Oper) (o : Oper) (view : Mem) (st st' : St) (v : Value) (l : Log) : Prop := ∀ (i : Nat) (D : Nat → Prop) (ρ : Nm) (a : Act) (w : World) (K : Act → World → Prop) (Q : Exit → Act → World → Prop), ops[i]? = some o →
      FrOK D ρ (fun t => t ∈ o.looksAt ops) st.env a → MemOK P A D ρ view w → (∀ i, D i → ¬ (st.nx ≤ i ∧ i < st'.nx)) → (∀ ρ' w', Aft P A D ρ view st.nx w v l st'.nx ρ' w' → K (a.put o.dst (ren ρ' v)) w') → wpOp P ops Q i K a w
/-- what is known of such a region's reckoning -/
structure Rk (P : Program) (A : Amb) (call : CallF) (ops : Array Oper) (O : Nat → Oper) (s : Nat → St) (L : Nat → Log) (B : Nat → Nat) (G : Nat → Seg) (V : Nat → Value) : Prop where
  d : Dat P call ops 0 ops.size O s L B G
  r : ∀ i, i < ops.size → OpRes (O i) (viewOf s B G i) (s i) (V i) (L i) (s (i + 1))
theorem seesOf_sub {bes : List Seg} {r : Option (List Nat)} {m : Mem} {id : Nat} {b : Blk} (h : seesOf bes r m id = some b) : m id = some b ∧ (∀ x ∈ bes, ¬ id ∈ x.k) ∧ ∀ l, r = some l → id ∈ l := by
  have has : ∀ (l : List Nat), has1 l id = true ↔ id ∈ l := fun l => by
    unfold has1
    rw [List.any_eq_true]
    constructor
    · rintro ⟨x, hx, he⟩
      rw [← Nat.eq_of_beq_eq_true he]; exact hx
    · intro h; exact ⟨id, h, by simp⟩
  unfold seesOf at h
  cases h1 : bes.any fun s => has1 s.k id <;> simp only [h1, cond] at h
  · have hk : ∀ x ∈ bes, ¬ id ∈ x.k := fun x hx hid => by
      have := List.any_eq_false.1 h1 x hx
      rw [(has x.k).2 hid] at this
      exact this rfl
    split at h
    · rename_i l
      cases h2 : has1 l id <;> simp only [h2, cond] at h
      · cases h
      · exact ⟨h, hk, fun l' e => by cases e; exact (has l).1 h2⟩
    · exact ⟨h, hk, fun l e => by cases e⟩
  · cases h
theorem clear_spec {bes : List Seg} {w : List Nat} (h : clear bes w = true) {x : Seg} (hx : x ∈ bes) {id : Nat} (hid : id ∈ w) : ∃ l, x.r = some l ∧ ¬ id ∈ l := by
  unfold clear at h
  rw [Bool.or_eq_true] at h
  rcases h with h | h
  · rw [List.isEmpty_iff] at h; subst h; cases hid
  · have := List.all_eq_true.1 h x hx
    split at this
    · rename_i l hl
      refine ⟨l, hl, fun hm => ?_⟩
      simp only [Bool.not_eq_true'] at this
      unfold meets at this
      have h2 := List.any_eq_false.1 this id hm
      apply h2
      unfold has1
      exact List.any_eq_true.2 ⟨id, hid, by simp⟩
    · cases this
section
variable {call : CallF} {ops : Array Oper} {O : Nat → Oper} {s : Nat → St} {L : Nat → Log} {B : Nat → Nat} {G : Nat → Seg} {V : Nat → Value}
theorem Rk.oi (h : Rk P A call ops O s L B G V) {i : Nat} (hi : i < ops.size) : ops[i]? = some (O i) := by
  have := h.d.o i (Nat.zero_le _) hi
  rwa [Array.getElem?_toList] at this
theorem Rk.step (h : Rk P A call ops O s L B G V) {i : Nat} (hi : i < ops.size) : Ext (s i) (s (i + 1)) := by
  have k := h.r i hi
  exact ⟨k.nx, k.n, L i, k.mem, k.log.more (fun j hj => by
    obtain ⟨b, hb⟩ := Option.isSome_iff_exists.1 hj
    exact Or.inl (by rw [(seesOf_sub hb).1]; rfl)) (Nat.le_refl _) (Nat.le_refl _), k.logs⟩
theorem Rk.ext (h : Rk P A call ops O s L B G V) : ∀ {i j : Nat}, i ≤ j → j ≤ ops.size → Ext (s i) (s j)
  | i, 0, h1, _ => by rw [Nat.le_zero.1 h1]; exact Ext.refl _
  | i, j + 1, h1, h2 => by
    by_cases e : i = j + 1
    · rw [e]; exact Ext.refl _
    · exact (h.ext (by omega) (by omega)).trans (h.step (by omega))
theorem Rk.nx (h : Rk P A call ops O s L B G V) {i j : Nat} (h1 : i ≤ j) (h2 : j ≤ ops.size) : (s i).nx ≤ (s j).nx := (h.ext h1 h2).nx
theorem Rk.dom (h : Rk P A call ops O s L B G V) {i id : Nat} {b : Blk} (hi : i ≤ ops.size) (hb : (s i).mem id = some b) : ((s 0).mem id).isSome = true ∨ ((s 0).nx ≤ id ∧ id < (s i).nx) := by
  obtain ⟨l, h1, h2, _⟩ := (h.ext (Nat.zero_le i) hi).mem
  rw [h1] at hb
  exact add_dom h2 hb
theorem lis_all {n k : Nat} : lis (Array.replicate n true) k ↔ k < n := by
  unfold lis
  by_cases h : k < n <;> simp [Array.getD_eq_getD_getElem?, h]
theorem Rk.env (h : Rk P A call ops O s L B G V) : ∀ i, i ≤ ops.size → (s i).env = stE (s 0).env (fun k => (O k).dst) V (Array.replicate ops.size true) i
  | 0, _ => rfl
  | i + 1, hi => by
    simp only [stE]
    rw [if_pos (lis_all.2 (by omega)), ← h.env i (by omega)]
    exact (h.r i (by omega)).env
theorem Rk.mem (h : Rk P A call ops O s L B G V) : ∀ i, i ≤ ops.size → (s i).mem = stM (s 0).mem L (Array.replicate ops.size true) i
  | 0, _ => rfl
  | i + 1, hi => by
    simp only [stM]
    rw [if_pos (lis_all.2 (by omega)), ← h.mem i (by omega)]
    exact (h.r i (by omega)).mem
/-- j and i may come in either order -/
theorem Rk.bes (h : Rk P A call ops O s L B G V) {i j : Nat} (hj : j < i) (hb : Nat.testBit (B i) j = false) : G j ∈ beside (B i) 0 ((List.range i).map G) := by
  rw [beside_mem]
  exact ⟨j, by simp [hj], by simpa using hb⟩
theorem Rk.apart (h : Rk P A call ops O s L B G V) {i j : Nat} (hj : j < i) (hi : i < ops.size) (hb : Nat.testBit (B i) j = false) : (O j).apart ops (O i) = true := by
  have h1 := List.all_eq_true.1 (h.d.a i (Nat.zero_le _) hi) _ (h.bes hj hb)
  rw [h.d.g j (Nat.zero_le _) (by omega)] at h1
  exact h1
theorem Rk.keys (h : Rk P A call ops O s L B G V) {j id : Nat} (hj : j < ops.size) (hid : inK L j id) : id ∈ (G j).k := by
  rw [h.d.g j (Nat.zero_le _) hj]
  obtain ⟨e, he, rfl⟩ := hid
  exact List.mem_map.2 ⟨e, he, rfl⟩
/-- all that an operation that has come up waited for has come up -/
def Closed (ops : Array Oper) (O : Nat → Oper) (l : Array Bool) : Prop := ∀ k, k < ops.size → lis l k → ∀ e ∈ (O k).after, Region.binds .any e = true → lis l e.on
theorem Rk.up (h : Rk P A call ops O s L B G V) {l : Array Bool} (hc : Closed ops O l) : ∀ (k : Nat), k < ops.size → (∀ e ∈ (O k).after, Region.binds .any e = true → lis l e.on) → ∀ j, Nat.testBit (B k) j = true → lis l j := by
  intro k
  induction k using Nat.strongRecOn with
  | _ k ih =>
    intro hk ha j hj
    rw [h.d.b k (Nat.zero_le _) hk] at hj
    obtain ⟨e, he, hb, hon⟩ := mask_spec hj
    have he' : e ∈ (O k).after := by simpa using he
    have hlt := early_spec (h.d.e k (Nat.zero_le _) hk) e he hb
    rcases hon with rfl | hon
    · exact ha e he' hb
    · have : ((List.range k).map B).getD e.on 0 = B e.on := by simp [List.getD_eq_getElem?_getD, hlt]
      rw [this] at hon
      exact ih e.on hlt (by omega) (hc e.on (by omega) (ha e he' hb)) j hon
theorem Rk.bit_lt (h : Rk P A call ops O s L B G V) : ∀ (k : Nat), k < ops.size → ∀ j, Nat.testBit (B k) j = true → j < k := by
  intro k
  induction k using Nat.strongRecOn with
  | _ k ih =>
    intro hk j hj
    rw [h.d.b k (Nat.zero_le _) hk] at hj
    obtain ⟨e, he, hb, hon⟩ := mask_spec hj
    have hlt := early_spec (h.d.e k (Nat.zero_le _) hk) e he hb
    rcases hon with rfl | hon
    · exact hlt
    · have : ((List.range k).map B).getD e.on 0 = B e.on := by simp [List.getD_eq_getElem?_getD, hlt]
      rw [this] at hon
      have := ih e.on hlt (by omega) j hon
      omega
/-- i is ready: what it waits for is there, what waits for it is not -/
structure At (ops : Array Oper) (O : Nat → Oper) (B : Nat → Nat) (l : Array Bool) (i : Nat) : Prop where
  lt : i < ops.size
  no : ¬ lis l i
  sz : l.size = ops.size
  before : ∀ j, j < i → Nat.testBit (B i) j = true → lis l j
  behind : ∀ j, i < j → j < ops.size → Nat.testBit (B j) i = true → ¬ lis l j
theorem Rk.at_ (h : Rk P A call ops O s L B G V) {l : Array Bool} (hc : Closed ops O l) (hsz : l.size = ops.size) {i : Nat} (hi : i < ops.size) (hno : ¬ lis l i) (ha : ∀ e ∈ (O i).after, Region.binds .any e = true → lis l e.on) : At ops O B l i :=
  ⟨hi, hno, hsz, fun j hj hb => h.up hc i hi ha j hb, fun j hj hjn hb hl => hno (h.up hc j hjn (hc j hjn hl) i hb)⟩
theorem Rk.slot (h : Rk P A call ops O s L B G V) {l : Array Bool} {i : Nat} (ha : At ops O B l i) {t : Nat} (ht : t ∈ (O i).looksAt ops) : (s i).env t = stE (s 0).env (fun k => (O k).dst) V l ops.size t := by
  have h1 : ∀ n, i ≤ n → n ≤ ops.size → stE (s 0).env (fun k => (O k).dst) V (Array.replicate i true) n t = stE (s 0).env (fun k => (O k).dst) V l n t := fun n h1 h2 => stE_eq n fun k hk hd => by
    rw [lis_all]
    rcases Nat.lt_trichotomy k i with hki | rfl | hki
    · refine ⟨fun _ => ?_, fun _ => hki⟩
      cases hb : Nat.testBit (B i) k
      · exact absurd ht ((Oper.apart_spec (h.apart hki ha.lt hb)).1 t hd)
      · exact ha.before k hki hb
    · exact ⟨fun h => absurd h (by omega), fun h => absurd h ha.no⟩
    · refine ⟨fun h => absurd h (by omega), fun hl => ?_⟩
      cases hb : Nat.testBit (B k) i
      · exact absurd ht ((Oper.apart_spec (h.apart hki (by omega) hb)).2.2 t hd)
      · exact absurd hl (ha.behind k hki (by omega) hb)
  rw [← h1 ops.size (Nat.le_of_lt ha.lt) (Nat.le_refl _), h.env i (Nat.le_of_lt ha.lt)]
  have h2 : ∀ m, stE (s 0).env (fun k => (O k).dst) V (Array.replicate i true) (i + m) t = stE (s 0).env (fun k => (O k).dst) V (Array.replicate i true) i t := fun m => by
    induction m with
    | zero => rfl
    | succ m ih =>
      show stE _ _ _ _ ((i + m) + 1) t = _
      simp only [stE]
      rw [if_neg (by rw [lis_all]; omega), ih]
  rw [show ops.size = i + (ops.size - i) by have := ha.lt; omega, h2]
  refine stE_eq i fun k hk _ => ?_
  rw [lis_all, lis_all]
  have := ha.lt
  omega
theorem Rk.cell (h : Rk P A call ops O s L B G V) (hD : ∀ id, ((s 0).mem id).isSome = true → ¬ ((s 0).nx ≤ id ∧ id < (s ops.size).nx)) {l : Array Bool} {i : Nat} (ha : At ops O B l i) {id : Nat} {b : Blk} (hv : viewOf s B G i id = some b) : stM (s 0).mem L l ops.size id = some b := by
  obtain ⟨v1, v2, v3⟩ := seesOf_sub hv
  have hdom := h.dom (Nat.le_of_lt ha.lt) v1
  have hout : ∀ k, i < k → k < ops.size → ¬ ((s k).nx ≤ id ∧ id < (s (k + 1)).nx) := fun k h1 h2 hr => by
    have n1 := h.nx (i := 0) (j := k) (Nat.zero_le _) (by omega)
    have n2 := h.nx (i := k + 1) (j := ops.size) (by omega) (Nat.le_refl _)
    have n3 := h.nx (i := i) (j := k) (by omega) (by omega)
    rcases hdom with hd | hd
    · exact hD id hd ⟨by omega, by omega⟩
    · omega
  have h1 : ∀ n, i ≤ n → n ≤ ops.size → stM (s 0).mem L (Array.replicate i true) n id = stM (s 0).mem L l n id := fun n h1 h2 => stM_eq n fun k hk hd => by
    rw [lis_all]
    rcases Nat.lt_trichotomy k i with hki | rfl | hki
    · refine ⟨fun _ => ?_, fun _ => hki⟩
      cases hb : Nat.testBit (B i) k
      · exact absurd (h.keys (by have := ha.lt; omega) hd) (v2 _ (h.bes hki hb))
      · exact ha.before k hki hb
    · exact ⟨fun h => absurd h (by omega), fun h => absurd h ha.no⟩
    · refine ⟨fun h => absurd h (by omega), fun hl => ?_⟩
      cases hb : Nat.testBit (B k) i
      · exfalso
        have hkn : k < ops.size := by omega
        have hw : id ∈ (G k).w := by
          rw [h.d.g k (Nat.zero_le _) hkn]
          refine List.mem_filter.2 ⟨by obtain ⟨e, he, rfl⟩ := hd; exact List.mem_map.2 ⟨e, he, rfl⟩, ?_⟩
          have := hout k hki hkn
          cases e1 : Nat.ble (s k).nx id <;> cases e2 : Nat.blt id (s (k + 1)).nx <;> simp
          exact this ⟨Nat.le_of_ble_eq_true e1, by simpa [Nat.blt_eq] using e2⟩
        obtain ⟨ls, hls, hnot⟩ := clear_spec (h.d.c k (Nat.zero_le _) hkn) (h.bes hki hb) hw
        exact hnot (v3 ls hls)
      · exact absurd hl (ha.behind k hki (by omega) hb)
  rw [← h1 ops.size (Nat.le_of_lt ha.lt) (Nat.le_refl _)]
  have h2 : ∀ m, stM (s 0).mem L (Array.replicate i true) (i + m) id = stM (s 0).mem L (Array.replicate i true) i id := fun m => by
    induction m with
    | zero => rfl
    | succ m ih =>
      show stM _ _ _ ((i + m) + 1) id = _
      simp only [stM]
      rw [if_neg (by rw [lis_all]; omega), ih]
  rw [show ops.size = i + (ops.size - i) by have := ha.lt; omega, h2]
  have h3 : stM (s 0).mem L (Array.replicate i true) i id = stM (s 0).mem L (Array.replicate ops.size true) i id := stM_eq i fun k hk _ => by
    rw [lis_all, lis_all]
    have := ha.lt
    omega
  rw [h3, ← h.mem i (Nat.le_of_lt ha.lt)]
  exact v1
/-- nothing that may come later, and has come up, has the same slot, or writes the same block -/
theorem Rk.slot2 (h : Rk P A call ops O s L B G V) {l : Array Bool} {i : Nat} (ha : At ops O B l i) {t k : Nat} (hk : i < k) (hkn : k < ops.size) (hl : lis l k) (hd : (O k).dst = some t) : (O i).dst ≠ some t := fun hi => by
  cases hb : Nat.testBit (B k) i
  · exact (Oper.apart_spec (h.apart hk hkn hb)).2.1 t hi hd
  · exact ha.behind k hk hkn hb hl
theorem Rk.cell2 (h : Rk P A call ops O s L B G V) (hD : ∀ id, ((s 0).mem id).isSome = true → ¬ ((s 0).nx ≤ id ∧ id < (s ops.size).nx)) {l : Array Bool} {i : Nat} (ha : At ops O B l i) {id k : Nat} (hk : i < k) (hkn : k < ops.size) (hl : lis l k) (hd : inK L k id) : ¬ inK L i id := fun hi => by
  cases hb : Nat.testBit (B k) i
  · have h1 := h.keys ha.lt hi
    obtain ⟨e, he, rfl⟩ := hd
    rcases (h.r k hkn).log e he with hv | hv
    · obtain ⟨b, hb'⟩ := Option.isSome_iff_exists.1 hv
      exact (seesOf_sub hb').2.1 _ (h.bes hk hb) h1
    · obtain ⟨f, hf, hfe⟩ := hi
      have n1 := h.nx (i := i + 1) (j := k) hk (by omega)
      have n0 := h.nx (i := 0) (j := k) (by omega) (by omega)
      have n2 := h.nx (i := k + 1) (j := ops.size) (by omega) (Nat.le_refl _)
      rcases (h.r i ha.lt).log f hf with hv2 | hv2
      · obtain ⟨b, hb'⟩ := Option.isSome_iff_exists.1 hv2
        have n3 := h.nx (i := i) (j := i + 1) (by omega) (by have := ha.lt; omega)
        rcases h.dom (Nat.le_of_lt ha.lt) (seesOf_sub hb').1 with hd2 | hd2
        · rw [hfe] at hd2
          exact hD _ hd2 ⟨by omega, by omega⟩
        · omega
      · omega
  · exact ha.behind k hk hkn hb hl
end
end Rx
end Go.Proofs.YtedfdphapcanoaaGreatDoor
end

section
/- A run reckoned by the kernel: each order of a region that draws comes to where the text's own order comes. No program. -/
set_option linter.unusedVariables false
set_option linter.unusedSimpArgs false
namespace Go.Proofs.YtedfdphapcanoaaGreatDoor
open Go.RowKit Go.Lib
namespace Rx
variable {P : Program} {A : Amb}
section
variable {call : CallF} {ops : Array Oper} {O : Nat → Oper} {s : Nat → St} {L : Nat → Log} {B : Nat → Nat} {G : Nat → Seg} {V : Nat → Value}
def Dl (ops : Array Oper) (s : Nat → St) (D : Nat → Prop) (l : Array Bool) (id : Nat) : Prop := D id ∨ ∃ k, k < ops.size ∧ lis l k ∧ (s k).nx ≤ id ∧ id < (s (k + 1)).nx
/-- where the region stands when the operations of l have come up -/
structure Stage (P : Program) (A : Amb) (ops : Array Oper) (O : Nat → Oper) (s : Nat → St) (L : Nat → Log) (V : Nat → Value) (D : Nat → Prop) (ρ0 : Nm) (w0 : World) (l : Array Bool) (ρ : Nm) (a : Act) (w : World) : Prop where
  sz : l.size = ops.size
  closed : Closed ops O l
  asz : a.tmps.size = (s 0).n
  defers : a.defers = []
  same : ∀ id, (∀ k, k < ops.size → lis l k → ¬ ((s k).nx ≤ id ∧ id < (s (k + 1)).nx)) → ρ id = ρ0 id
  fr : ∀ t u, stE (s 0).env (fun k => (O k).dst) V l ops.size t = some u → a.tmps[t]? = some (ren ρ u) ∧ Fit (Dl ops s D l) u
  mem : MemOK P A (Dl ops s D l) ρ (stM (s 0).mem L l ops.size) w
  kept : Kept (owns ρ0 (s 0).mem) w0 w
  new : ∀ id b, (s 0).nx ≤ id → id < (s ops.size).nx → stM (s 0).mem L l ops.size id = some b → w0.heap.size ≤ (ρ id).1 ∨ owns ρ0 (s 0).mem (ρ id).1
theorem lis_set {l : Array Bool} {i k : Nat} (hi : i < l.size) : lis (l.setIfInBounds i true) k ↔ k = i ∨ lis l k := by
  unfold lis
  by_cases e : k = i
  · subst e; simp [hi]
  · simp [Array.getD_eq_getD_getElem?, Array.getElem?_setIfInBounds_ne (fun h => e h.symm), e]
theorem Rk.stage (h : Rk P A call ops O s L B G V) {D : Nat → Prop} {ρ0 ρ : Nm} {w0 w : World} {l : Array Bool} {a : Act} (hD : ∀ id, D id → ¬ ((s 0).nx ≤ id ∧ id < (s ops.size).nx)) (hm0 : ∀ id, ((s 0).mem id).isSome = true → D id)
    (hs : Stage P A ops O s L V D ρ0 w0 l ρ a w) {i : Nat} (ha : At ops O B l i) (hal : ∀ e ∈ (O i).after, Region.binds .any e = true → lis l e.on) {ρ' : Nm} {w' : World}
    (k : Aft P A (Dl ops s D l) ρ (viewOf s B G i) (s i).nx w (V i) (L i) (s (i + 1)).nx ρ' w') : Stage P A ops O s L V D ρ0 w0 (l.setIfInBounds i true) ρ' (a.put (O i).dst (ren ρ' (V i))) w' := by
  have hi := ha.lt
  have hil : i < l.size := by rw [ha.sz]; exact hi
  have hr := h.r i hi
  have hD' : ∀ id, ((s 0).mem id).isSome = true → ¬ ((s 0).nx ≤ id ∧ id < (s ops.size).nx) := fun id hid => hD id (hm0 id hid)
  have n0 : (s 0).nx ≤ (s i).nx := h.nx (Nat.zero_le _) (Nat.le_of_lt hi)
  have n1 : (s i).nx ≤ (s (i + 1)).nx := h.nx (Nat.le_succ _) hi
  have n2 : (s (i + 1)).nx ≤ (s ops.size).nx := h.nx hi (Nat.le_refl _)
  have disj : ∀ id, Dl ops s D l id → ¬ ((s i).nx ≤ id ∧ id < (s (i + 1)).nx) := fun id hid hr => by
    rcases hid with hid | ⟨k, hk, hl, h1, h2⟩
    · exact hD id hid ⟨by omega, by omega⟩
    · rcases Nat.lt_trichotomy k i with hki | rfl | hki
      · have := h.nx (i := k + 1) (j := i) hki (by omega)
        omega
      · exact ha.no hl
      · have := h.nx (i := i + 1) (j := k) hki (by omega)
        omega
  have hold : ∀ id, Dl ops s D l id → ρ' id = ρ id := fun id hid => k.same id (disj id hid)
  have oldv : ∀ {u : Value}, Fit (Dl ops s D l) u → ren ρ' u = ren ρ u := fun hu => hu ρ' ρ hold
  have hDl : ∀ id, Rx.ext (Dl ops s D l) (s i).nx (s (i + 1)).nx id → Dl ops s D (l.setIfInBounds i true) id := fun id hid => by
    rcases hid with (hid | ⟨k, hk, hl, h1, h2⟩) | hid
    · exact Or.inl hid
    · exact Or.inr ⟨k, hk, (lis_set hil).2 (Or.inr hl), h1, h2⟩
    · exact Or.inr ⟨i, hi, (lis_set hil).2 (Or.inl rfl), hid⟩
  have hmem : ∀ id, stM (s 0).mem L (l.setIfInBounds i true) ops.size id = (stM (s 0).mem L l ops.size).add (L i) id := fun id =>
    stM_put hil ops.size hi fun k h1 h2 hl hd => h.cell2 hD' ha h1 h2 hl hd
  have hview : ∀ {id : Nat} {b : Blk}, viewOf s B G i id = some b → stM (s 0).mem L l ops.size id = some b := fun hv => h.cell hD' ha hv
  -- a block of the new stage: one that the operation has seen or made, or one that it left
  have cls : ∀ {id : Nat} {b : Blk}, stM (s 0).mem L (l.setIfInBounds i true) ops.size id = some b → (viewOf s B G i).add (L i) id = some b ∨ (stM (s 0).mem L l ops.size id = some b ∧ viewOf s B G i id = none) := fun {id b} e => by
    rw [hmem] at e
    by_cases hk : inK L i id
    · left; rw [← e]; exact add_in hk
    · rw [add_out hk] at e
      cases hv : viewOf s B G i id with
      | none => exact Or.inr ⟨e, rfl⟩
      | some c =>
        left
        rw [add_out hk, hv, ← e, hview hv]
  have h1dom : ∀ {id : Nat} {b : Blk}, (viewOf s B G i).add (L i) id = some b → (∃ c, viewOf s B G i id = some c) ∨ ((s i).nx ≤ id ∧ id < (s (i + 1)).nx) := fun e => by
    rcases add_dom hr.log e with h0 | h0
    · exact Or.inl (Option.isSome_iff_exists.1 h0)
    · exact Or.inr h0
  have hnot : ∀ {id : Nat} {b : Blk}, stM (s 0).mem L l ops.size id = some b → viewOf s B G i id = none → ¬ owns ρ (viewOf s B G i) (ρ id).1 := fun {id b} e hn ⟨j, c, hj, he⟩ => by
    have hne : id ≠ j := fun h => by rw [h, hj] at hn; cases hn
    exact hs.mem.inj e (hview hj) hne he
  have hown : ∀ b, owns ρ (viewOf s B G i) b → w0.heap.size ≤ b ∨ owns ρ0 (s 0).mem b := fun b ⟨id, c, hc, hb⟩ => by
    subst hb
    have e := hview hc
    have hv := seesOf_sub hc
    rcases h.dom (Nat.le_of_lt hi) hv.1 with hd | hd
    · obtain ⟨c', hc'⟩ := Option.isSome_iff_exists.1 hd
      have hdd := hD' id hd
      refine Or.inr ⟨id, c', hc', ?_⟩
      rw [hs.same id fun q hq hl hr => hdd ?_]
      have m1 := h.nx (i := 0) (j := q) (by omega) (by omega)
      have m2 := h.nx (i := q + 1) (j := ops.size) hq (Nat.le_refl _)
      exact ⟨by omega, by omega⟩
    · exact hs.new id c hd.1 (by omega) e
  refine ⟨by simp [hs.sz], fun q hq hl e he hb => ?_, by rw [put_size]; exact hs.asz, by rw [put_defers_]; exact hs.defers, fun id hid => ?_, fun t u hu => ?_, ⟨k.mem.s, fun {id b} e => ?_, fun {id cs T r} e v hv => ?_, fun {id cs T r} e => ?_, fun {id j b c} e f hij => ?_⟩, ?_, fun id b h1 h2 e => ?_⟩
  · rcases (lis_set hil).1 hl with rfl | hl
    · exact (lis_set hil).2 (Or.inr (hal e he hb))
    · exact (lis_set hil).2 (Or.inr (hs.closed q hq hl e he hb))
  · rw [k.same id (hid i hi ((lis_set hil).2 (Or.inl rfl)))]
    exact hs.same id fun q hq hl => hid q hq ((lis_set hil).2 (Or.inr hl))
  · rw [stE_put hil ops.size hi fun q h1 h2 hl hd => h.slot2 ha h1 h2 hl hd] at hu
    by_cases hd : (O i).dst = some t
    · rw [if_pos hd] at hu
      simp only [Option.some.injEq] at hu
      subst hu
      have hlt : t < a.tmps.size := by rw [hs.asz]; have := hr.lt t hd; rw [(h.ext (Nat.zero_le i) (Nat.le_of_lt hi)).n] at this; exact this
      rw [hd, put_get hlt, if_pos rfl]
      exact ⟨rfl, k.fit.mono hDl⟩
    · rw [if_neg hd] at hu
      obtain ⟨h1, h2⟩ := hs.fr t u hu
      refine ⟨?_, h2.mono fun id hid => hDl id (Or.inl hid)⟩
      rw [oldv h2]
      cases hdd : (O i).dst with
      | none => exact h1
      | some d =>
        have hlt : d < a.tmps.size := by rw [hs.asz]; have := hr.lt d hdd; rw [(h.ext (Nat.zero_le i) (Nat.le_of_lt hi)).n] at this; exact this
        rw [put_get hlt, if_neg (fun e => hd (by rw [hdd, e]))]
        exact h1
  · rcases cls e with e | ⟨e, hn⟩
    · exact ⟨hDl id (k.mem.dom e).1, (k.mem.dom e).2⟩
    · have := hs.mem.dom e
      exact ⟨hDl id (Or.inl this.1), by rw [hold id this.1]; exact this.2⟩
  · rcases cls e with e | ⟨e, hn⟩
    · exact (k.mem.fit e v hv).mono hDl
    · exact (hs.mem.fit e v hv).mono fun id hid => hDl id (Or.inl hid)
  · rcases cls e with e | ⟨e, hn⟩
    · exact k.mem.lies e
    · have hd := (hs.mem.dom e).1
      rw [hold id hd]
      exact ((hs.mem.lies e).same (k.kept.block _ (hs.mem.lies e).lt (hnot e hn))).ren (hs.mem.fit e) fun j hj => (hold j hj).symm
  · rcases cls e with e | ⟨e, hn⟩ <;> rcases cls f with f | ⟨f, hn'⟩
    · exact k.mem.inj e f hij
    · rw [hold j (hs.mem.dom f).1]
      rcases h1dom e with ⟨c', hc'⟩ | hrng
      · have e2 := hview hc'
        rw [hold id (hs.mem.dom e2).1]
        exact hs.mem.inj e2 f hij
      · rcases k.new id b hrng.1 hrng.2 e with h9 | h9
        · have := hs.mem.lt f
          omega
        · exact fun heq => hnot f hn' (heq ▸ h9)
    · rw [hold id (hs.mem.dom e).1]
      rcases h1dom f with ⟨c', hc'⟩ | hrng
      · have f2 := hview hc'
        rw [hold j (hs.mem.dom f2).1]
        exact hs.mem.inj e f2 hij
      · rcases k.new j c hrng.1 hrng.2 f with h9 | h9
        · have := hs.mem.lt e
          omega
        · exact fun heq => hnot e hn (heq.symm ▸ h9)
    · rw [hold id (hs.mem.dom e).1, hold j (hs.mem.dom f).1]
      exact hs.mem.inj e f hij
  · refine Kept.trans hs.kept k.kept (fun _ _ h => h) fun b hb hk => ?_
    rcases hown b hk with h9 | h9
    · omega
    · exact h9
  · by_cases hrng : (s i).nx ≤ id ∧ id < (s (i + 1)).nx
    · rcases cls e with e | ⟨e, hn⟩
      · rcases k.new id b hrng.1 hrng.2 e with h9 | h9
        · have := hs.kept.size
          exact Or.inl (by omega)
        · exact hown _ h9
      · exact absurd hrng (disj id (hs.mem.dom e).1)
    · rw [k.same id hrng]
      rcases cls e with e | ⟨e, hn⟩
      · rcases h1dom e with ⟨c', hc'⟩ | hr2
        · exact hs.new id c' h1 h2 (hview hc')
        · exact absurd hr2 hrng
      · exact hs.new id b h1 h2 e
theorem Rk.run (h : Rk P A call ops O s L B G V) (hc : ∀ i, i < ops.size → OpC P A ops (O i) (viewOf s B G i) (s i) (s (i + 1)) (V i) (L i)) {D : Nat → Prop} {ρ0 : Nm} {w0 : World} (hD : ∀ id, D id → ¬ ((s 0).nx ≤ id ∧ id < (s ops.size).nx)) (hm0 : ∀ id, ((s 0).mem id).isSome = true → D id)
    {Q : Exit → Act → World → Prop} (hQ : ∀ ρ a w l, Stage P A ops O s L V D ρ0 w0 l ρ a w → (∀ k, k < ops.size → lis l k) → Q .normal a w) :
    ∀ (f : Nat) (l : Array Bool) (ρ : Nm) (a : Act) (w : World), (List.range ops.size).countP (fun k => !decide (lis l k)) ≤ f → Stage P A ops O s L V D ρ0 w0 l ρ a w → wpAny P .any ops Q f l a w := by
  have ready_of : ∀ {l : Array Bool} {i : Nat}, l.size = ops.size → (i ∈ Region.ready .any ops l ↔ i < ops.size ∧ ¬ lis l i ∧ ∀ e ∈ (O i).after, Region.binds .any e = true → lis l e.on) := fun {l i} hsz => by
    rw [mem_ready]
    unfold lis
    constructor
    · rintro ⟨h1, o, ho, h2⟩
      have hi : i < ops.size := (Array.getElem?_eq_some_iff.1 ho).1
      have : o = O i := by have := h.oi hi; rw [ho] at this; simpa using this
      subst this
      refine ⟨hi, ?_, h2⟩
      have hil : i < l.size := by omega
      simp only [Array.getD_eq_getD_getElem?, Array.getElem?_eq_getElem hil, Option.getD_some] at h1 ⊢
      simp [h1]
    · rintro ⟨hi, h1, h2⟩
      refine ⟨?_, O i, h.oi hi, h2⟩
      have hil : i < l.size := by omega
      simp only [Array.getD_eq_getD_getElem?, Array.getElem?_eq_getElem hil, Option.getD_some] at h1 ⊢
      simpa using h1
  have none_ready : ∀ {l : Array Bool}, l.size = ops.size → Region.ready .any ops l = [] → ∀ k, k < ops.size → lis l k := fun {l} hsz hr k => by
    induction k using Nat.strongRecOn with
    | _ k ih =>
      intro hk
      apply Decidable.byContradiction
      intro hno
      have : k ∈ Region.ready .any ops l := (ready_of hsz).2 ⟨hk, hno, fun e he hb => ih e.on (early_spec (h.d.e k (Nat.zero_le _) hk) e (by simpa using he) hb) (by have := early_spec (h.d.e k (Nat.zero_le _) hk) e (by simpa using he) hb; omega)⟩
      rw [hr] at this
      cases this
  intro f
  induction f with
  | zero =>
    intro l ρ a w hcnt hs
    have hall : ∀ k, k < ops.size → lis l k := fun k hk => by
      have := List.countP_eq_zero.1 (Nat.le_zero.1 hcnt) k (by simpa using hk)
      simpa using this
    refine ⟨?_, hQ ρ a w l hs hall⟩
    cases hr : Region.ready .any ops l with
    | nil => rfl
    | cons i r =>
      have : i ∈ Region.ready .any ops l := by rw [hr]; simp
      have := (ready_of hs.sz).1 this
      exact absurd (hall i this.1) this.2.1
  | succ f ih =>
    intro l ρ a w hcnt hs
    refine ⟨fun hr => hQ ρ a w l hs (none_ready hs.sz hr), fun i hi => ?_⟩
    obtain ⟨h1, h2, h3⟩ := (ready_of hs.sz).1 hi
    have hat := h.at_ hs.closed hs.sz h1 h2 h3
    have hil : i < l.size := by rw [hs.sz]; exact h1
    have hD' : ∀ id, ((s 0).mem id).isSome = true → ¬ ((s 0).nx ≤ id ∧ id < (s ops.size).nx) := fun id hid => hD id (hm0 id hid)
    have hview : ∀ {id : Nat} {b : Blk}, viewOf s B G i id = some b → stM (s 0).mem L l ops.size id = some b := fun hv => h.cell hD' hat hv
    have n0 : (s 0).nx ≤ (s i).nx := h.nx (Nat.zero_le _) (Nat.le_of_lt h1)
    have n2 : (s (i + 1)).nx ≤ (s ops.size).nx := h.nx h1 (Nat.le_refl _)
    refine hc i h1 i (Dl ops s D l) ρ a w _ Q (h.oi h1) (fun t u ht hu => ?_) ⟨hs.mem.s, fun e => hs.mem.dom (hview e), fun e => hs.mem.fit (hview e), fun e => hs.mem.lies (hview e), fun e f => hs.mem.inj (hview e) (hview f)⟩ (fun id hid hr => ?_) (fun ρ' w' k => ?_)
    · rw [h.slot hat ht] at hu
      exact hs.fr t u hu
    · rcases hid with hid | ⟨k, hk, hl, h1', h2'⟩
      · exact hD id hid ⟨by omega, by omega⟩
      · rcases Nat.lt_trichotomy k i with hki | rfl | hki
        · have := h.nx (i := k + 1) (j := i) hki (by omega)
          omega
        · exact h2 hl
        · have := h.nx (i := i + 1) (j := k) hki (by omega)
          omega
    · refine ih _ ρ' _ w' ?_ (h.stage hD hm0 hs hat h3 k)
      have hlt : (List.range ops.size).countP (fun k => !decide (lis (l.setIfInBounds i true) k)) < (List.range ops.size).countP (fun k => !decide (lis l k)) := by
        have gen : ∀ (xs : List Nat), i ∈ xs → xs.countP (fun k => !decide (lis (l.setIfInBounds i true) k)) < xs.countP (fun k => !decide (lis l k)) := by
          have le : ∀ (xs : List Nat), xs.countP (fun k => !decide (lis (l.setIfInBounds i true) k)) ≤ xs.countP (fun k => !decide (lis l k)) := fun xs =>
            List.countP_mono_left fun x _ hx => by
              simp only [Bool.not_eq_true', decide_eq_false_iff_not] at hx ⊢
              exact fun hl => hx ((lis_set hil).2 (Or.inr hl))
          intro xs
          induction xs with
          | nil => intro h; cases h
          | cons x xs ihx =>
            intro hx
            rw [List.countP_cons, List.countP_cons]
            by_cases e : x = i
            · subst e
              rw [if_neg (by simp [lis_set hil]), if_pos (by simp [h2])]
              have := le xs
              omega
            · have := ihx ((List.mem_cons.1 hx).resolve_left fun h => e h.symm)
              by_cases hl : lis l x
              · rw [if_neg (by simp [lis_set hil, hl]), if_neg (by simp [hl])]; omega
              · rw [if_pos (by simp [lis_set hil, hl, e]), if_pos (by simp [hl])]; omega
        exact gen _ (by simpa using h1)
      omega
end
theorem Sound.all {f : Nat → Ts} {C : Nat → Prop} : ∀ (n : Nat), (∀ i, i < n → Sound P A (f i) (f (i + 1)) (C i)) → Sound P A (f 0) (f n) (∀ i, i < n → C i)
  | 0, _ => Sound.refl fun i h => (by omega)
  | n + 1, h => (Sound.all n fun i hi => h i (by omega)).bind ((h n (by omega)).mono fun hn ha i hi => by
      by_cases e : i = n
      · rw [e]; exact hn
      · exact ha i (by omega))
theorem runDraw_S {call : CallF} (hc : CallS P A call) {ops : Array Oper} {st st' : St} (h : runDraw P call ops ops.toList [] [] st = some st') :
    StepS P A (fun K a w => ∀ Q : Exit → Act → World → Prop, (∀ a w, K a w → Q .normal a w) → wpAny P .any ops Q ops.size (Array.replicate ops.size false) a w) st st' := by
  obtain ⟨O, s, L, B, G, hdat, h0, hn, _, _⟩ := dat_of ops.toList [] [] st st' rfl (by simp) h
  have hdat : Dat P call ops 0 ops.size O s L B G := hdat
  have h0 : s 0 = st := h0
  have hex : ∀ i, ∃ v, i < ops.size → OpRes (O i) (viewOf s B G i) (s i) v (L i) (s (i + 1)) ∧ Sound P A (s i).ts (s (i + 1)).ts (OpC P A ops (O i) (viewOf s B G i) (s i) (s (i + 1)) v (L i)) := fun i => by
    by_cases hi : i < ops.size
    · have hr := hdat.r i (Nat.zero_le _) hi
      obtain ⟨v, h1, h2⟩ := runOp_S hc hr (T := fun t => t ∈ (O i).looksAt ops) (fun x u hx => by
        obtain ⟨k1, k2⟩ := Looks.restr (O i) (s i).env x u hx
        exact ⟨k1, fun t ht => List.mem_append_left _ (List.mem_filterMap.2 ⟨.tmp t, k2 t ht, rfl⟩)⟩) (fun d hd => List.mem_append_right _ hd)
      exact ⟨v, fun _ => ⟨h1, h2⟩⟩
    · exact ⟨undef, fun h => absurd h hi⟩
  let V : Nat → Value := fun i => Classical.choose (hex i)
  have hV : ∀ i, i < ops.size → OpRes (O i) (viewOf s B G i) (s i) (V i) (L i) (s (i + 1)) ∧ Sound P A (s i).ts (s (i + 1)).ts (OpC P A ops (O i) (viewOf s B G i) (s i) (s (i + 1)) (V i) (L i)) := fun i => Classical.choose_spec (hex i)
  have hk : Rk P A call ops O s L B G V := ⟨hdat, fun i hi => (hV i hi).1⟩
  refine ⟨by rw [← h0, ← hn]; exact hk.ext (Nat.zero_le _) (Nat.le_refl _), ?_⟩
  have hS := Sound.all (P := P) (A := A) (f := fun i => (s i).ts) ops.size fun i hi => (hV i hi).2
  simp only [h0, hn] at hS
  refine hS.mono fun hC D ρ a w K ho hD hK Q hq => ?_
  subst h0 hn
  have hnl : ∀ k, ¬ lis (Array.replicate ops.size false) k := fun k hl => by
    unfold lis at hl
    by_cases hk : k < ops.size <;> simp [Array.getD_eq_getD_getElem?, hk] at hl
  have e0 : ∀ n, stE (s 0).env (fun k => (O k).dst) V (Array.replicate ops.size false) n = (s 0).env := fun n => by
    induction n with
    | zero => rfl
    | succ n ih => simp only [stE]; rw [if_neg (hnl n), ih]
  have m0 : ∀ n, stM (s 0).mem L (Array.replicate ops.size false) n = (s 0).mem := fun n => by
    induction n with
    | zero => rfl
    | succ n ih => simp only [stM]; rw [if_neg (hnl n), ih]
  have hm0 : ∀ id, ((s 0).mem id).isSome = true → D id := fun id hid => by
    obtain ⟨b, hb⟩ := Option.isSome_iff_exists.1 hid
    exact (ho.mem.dom hb).1
  refine hk.run hC hD hm0 (ρ0 := ρ) (w0 := w) (fun ρ' a' w' l hs hall => hq a' w' (hK ρ' a' w' ?_)) ops.size _ ρ a w (by
    have := List.countP_le_length (p := fun k => !decide (lis (Array.replicate ops.size false) k)) (l := List.range ops.size)
    simpa using this) ⟨by simp, fun k _ hl => absurd hl (hnl k), ho.size, ho.defers, fun _ _ => rfl, fun t u hu => ?_, ?_, Kept.refl _ _, fun id b h1 h2 e => ?_⟩
  · have ea : ∀ t, stE (s 0).env (fun k => (O k).dst) V l ops.size t = (s ops.size).env t := fun t => by
      rw [hk.env ops.size (Nat.le_refl _)]
      exact stE_eq _ fun k hkk _ => by rw [lis_all]; exact ⟨fun _ => hkk, fun _ => hall k hkk⟩
    have em : ∀ id, stM (s 0).mem L l ops.size id = (s ops.size).mem id := fun id => by
      rw [hk.mem ops.size (Nat.le_refl _)]
      exact stM_eq _ fun k hkk _ => by rw [lis_all]; exact ⟨fun _ => hkk, fun _ => hall k hkk⟩
    have em : stM (s 0).mem L l ops.size = (s ops.size).mem := funext em
    have hsub : ∀ id, Dl ops s D l id → ext D (s 0).nx (s ops.size).nx id := fun id hid => by
      rcases hid with hid | ⟨k, hkk, _, h1, h2⟩
      · exact Or.inl hid
      · have m1 := hk.nx (i := 0) (j := k) (by omega) (by omega)
        have m2 := hk.nx (i := k + 1) (j := ops.size) hkk (Nat.le_refl _)
        exact Or.inr ⟨by omega, by omega⟩
    refine ⟨fun id hid => hs.same id fun k hkk _ hr => ?_, ⟨fun t u _ hu => ?_, by rw [hs.asz, (hk.ext (Nat.zero_le _) (Nat.le_refl _)).n], hs.defers, by rw [← em]; exact hs.mem.mono hsub⟩, hs.kept, fun id b h1 h2 e => hs.new id b h1 h2 (by rw [em]; exact e)⟩
    · have m1 := hk.nx (i := 0) (j := k) (by omega) (by omega)
      have m2 := hk.nx (i := k + 1) (j := ops.size) hkk (Nat.le_refl _)
      exact hid ⟨by omega, by omega⟩
    · obtain ⟨h1, h2⟩ := hs.fr t u (by rw [ea]; exact hu)
      exact ⟨h1, h2.mono hsub⟩
  · rw [e0] at hu
    obtain ⟨h1, h2⟩ := ho.fr t u trivial hu
    exact ⟨h1, h2.mono fun _ => Or.inl⟩
  · rw [m0]; exact ho.mem.mono fun _ => Or.inl
  · rw [m0] at e
    exact absurd ⟨h1, h2⟩ (hD id (hm0 id (by rw [e]; rfl)))
end Rx
end Go.Proofs.YtedfdphapcanoaaGreatDoor
end
