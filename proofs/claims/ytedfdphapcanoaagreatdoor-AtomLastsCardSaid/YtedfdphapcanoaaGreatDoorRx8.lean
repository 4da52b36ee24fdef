/- A run reckoned by the kernel: the theorem on regions that draw their order. No program. -/
import Derived.Test.YtedfdphapcanoaaGreatDoorRx7
set_option linter.unusedVariables false
set_option linter.unusedSimpArgs false
namespace Go.Proofs.YtedfdphapcanoaaGreatDoor
open Go.RowKit Go.Lib
namespace Rx
variable {P : Program} {A : Amb}

def viewOf (s : Nat → St) (B : Nat → Nat) (G : Nat → Seg) (i : Nat) : Mem := seesOf (beside (B i) 0 ((List.range i).map G)) (G i).r (s i).mem
def OpC (P : Program) (A : Amb) (ops : Array Oper) (o : Oper) (view : Mem) (st st' : St) (v : Value) (l : Log) : Prop := ∀ (i : Nat) (D : Nat → Prop) (ρ : Nm) (a : Act) (w : World) (K : Act → World → Prop) (Q : Exit → Act → World → Prop), ops[i]? = some o →
      FrOK D ρ (fun t => t ∈ o.looksAt ops) st.env a → MemOK P A D ρ view w → (∀ i, D i → ¬ (st.nx ≤ i ∧ i < st'.nx)) → (∀ ρ' w', Aft P A D ρ view st.nx w v l st'.nx ρ' w' → K (a.put o.dst (ren ρ' v)) w') → wpOp P ops Q i K a w
/-- what is known of such a region's reckoning -/
structure Rk (P : Program) (A : Amb) (call : CallF) (ops : Array Oper) (O : Nat → Oper) (s : Nat → St) (L : Nat → Log) (B : Nat → Nat) (G : Nat → Seg) (V : Nat → Value) : Prop where
  d : Dat P call ops 0 ops.size O s L B G
  r : ∀ i, i < ops.size → OpRes (O i) (viewOf s B G i) (s i) (V i) (L i) (s (i + 1))
theorem seesOf_sub {bes : List Seg} {r : Option (List Nat)} {m : Mem} {id : Nat} {b : Blk} (h : seesOf bes r m id = some b) : m id = some b ∧ (∀ x ∈ bes, ¬ id ∈ x.k) ∧ ∀ l, r = some l → id ∈ l := by
  have has : ∀ (l : List Nat), has1 l id = true ↔ id ∈ l := fun l => by
    unfold has1
    rw [List.any_eq_true]
    constructor
    · rintro ⟨x, hx, he⟩
      rw [← Nat.eq_of_beq_eq_true he]; exact hx
    · intro h; exact ⟨id, h, by simp⟩
  unfold seesOf at h
  cases h1 : bes.any fun s => has1 s.k id <;> simp only [h1, cond] at h
  · have hk : ∀ x ∈ bes, ¬ id ∈ x.k := fun x hx hid => by
      have := List.any_eq_false.1 h1 x hx
      rw [(has x.k).2 hid] at this
      exact this rfl
    split at h
    · rename_i l
      cases h2 : has1 l id <;> simp only [h2, cond] at h
      · cases h
      · exact ⟨h, hk, fun l' e => by cases e; exact (has l).1 h2⟩
    · exact ⟨h, hk, fun l e => by cases e⟩
  · cases h
theorem clear_spec {bes : List Seg} {w : List Nat} (h : clear bes w = true) {x : Seg} (hx : x ∈ bes) {id : Nat} (hid : id ∈ w) : ∃ l, x.r = some l ∧ ¬ id ∈ l := by
  unfold clear at h
  rw [Bool.or_eq_true] at h
  rcases h with h | h
  · rw [List.isEmpty_iff] at h; subst h; cases hid
  · have := List.all_eq_true.1 h x hx
    split at this
    · rename_i l hl
      refine ⟨l, hl, fun hm => ?_⟩
      simp only [Bool.not_eq_true'] at this
      unfold meets at this
      have h2 := List.any_eq_false.1 this id hm
      apply h2
      unfold has1
      exact List.any_eq_true.2 ⟨id, hid, by simp⟩
    · cases this
section
variable {call : CallF} {ops : Array Oper} {O : Nat → Oper} {s : Nat → St} {L : Nat → Log} {B : Nat → Nat} {G : Nat → Seg} {V : Nat → Value}
theorem Rk.oi (h : Rk P A call ops O s L B G V) {i : Nat} (hi : i < ops.size) : ops[i]? = some (O i) := by
  have := h.d.o i (Nat.zero_le _) hi
  rwa [Array.getElem?_toList] at this
theorem Rk.step (h : Rk P A call ops O s L B G V) {i : Nat} (hi : i < ops.size) : Ext (s i) (s (i + 1)) := by
  have k := h.r i hi
  exact ⟨k.nx, k.n, L i, k.mem, k.log.more (fun j hj => by
    obtain ⟨b, hb⟩ := Option.isSome_iff_exists.1 hj
    exact Or.inl (by rw [(seesOf_sub hb).1]; rfl)) (Nat.le_refl _) (Nat.le_refl _), k.logs⟩
theorem Rk.ext (h : Rk P A call ops O s L B G V) : ∀ {i j : Nat}, i ≤ j → j ≤ ops.size → Ext (s i) (s j)
  | i, 0, h1, _ => by rw [Nat.le_zero.1 h1]; exact Ext.refl _
  | i, j + 1, h1, h2 => by
    by_cases e : i = j + 1
    · rw [e]; exact Ext.refl _
    · exact (h.ext (by omega) (by omega)).trans (h.step (by omega))
theorem Rk.nx (h : Rk P A call ops O s L B G V) {i j : Nat} (h1 : i ≤ j) (h2 : j ≤ ops.size) : (s i).nx ≤ (s j).nx := (h.ext h1 h2).nx
theorem Rk.dom (h : Rk P A call ops O s L B G V) {i id : Nat} {b : Blk} (hi : i ≤ ops.size) (hb : (s i).mem id = some b) : ((s 0).mem id).isSome = true ∨ ((s 0).nx ≤ id ∧ id < (s i).nx) := by
  obtain ⟨l, h1, h2, _⟩ := (h.ext (Nat.zero_le i) hi).mem
  rw [h1] at hb
  exact add_dom h2 hb
theorem lis_all {n k : Nat} : lis (Array.replicate n true) k ↔ k < n := by
  unfold lis
  by_cases h : k < n <;> simp [Array.getD_eq_getD_getElem?, h]
theorem Rk.env (h : Rk P A call ops O s L B G V) : ∀ i, i ≤ ops.size → (s i).env = stE (s 0).env (fun k => (O k).dst) V (Array.replicate ops.size true) i
  | 0, _ => rfl
  | i + 1, hi => by
    simp only [stE]
    rw [if_pos (lis_all.2 (by omega)), ← h.env i (by omega)]
    exact (h.r i (by omega)).env
theorem Rk.mem (h : Rk P A call ops O s L B G V) : ∀ i, i ≤ ops.size → (s i).mem = stM (s 0).mem L (Array.replicate ops.size true) i
  | 0, _ => rfl
  | i + 1, hi => by
    simp only [stM]
    rw [if_pos (lis_all.2 (by omega)), ← h.mem i (by omega)]
    exact (h.r i (by omega)).mem
/-- j and i may come in either order -/
theorem Rk.bes (h : Rk P A call ops O s L B G V) {i j : Nat} (hj : j < i) (hb : Nat.testBit (B i) j = false) : G j ∈ beside (B i) 0 ((List.range i).map G) := by
  rw [beside_mem]
  exact ⟨j, by simp [hj], by simpa using hb⟩
theorem Rk.apart (h : Rk P A call ops O s L B G V) {i j : Nat} (hj : j < i) (hi : i < ops.size) (hb : Nat.testBit (B i) j = false) : (O j).apart ops (O i) = true := by
  have h1 := List.all_eq_true.1 (h.d.a i (Nat.zero_le _) hi) _ (h.bes hj hb)
  rw [h.d.g j (Nat.zero_le _) (by omega)] at h1
  exact h1
theorem Rk.keys (h : Rk P A call ops O s L B G V) {j id : Nat} (hj : j < ops.size) (hid : inK L j id) : id ∈ (G j).k := by
  rw [h.d.g j (Nat.zero_le _) hj]
  obtain ⟨e, he, rfl⟩ := hid
  exact List.mem_map.2 ⟨e, he, rfl⟩
/-- all that an operation that has come up waited for has come up -/
def Closed (ops : Array Oper) (O : Nat → Oper) (l : Array Bool) : Prop := ∀ k, k < ops.size → lis l k → ∀ e ∈ (O k).after, Region.binds .any e = true → lis l e.on
theorem Rk.up (h : Rk P A call ops O s L B G V) {l : Array Bool} (hc : Closed ops O l) : ∀ (k : Nat), k < ops.size → (∀ e ∈ (O k).after, Region.binds .any e = true → lis l e.on) → ∀ j, Nat.testBit (B k) j = true → lis l j := by
  intro k
  induction k using Nat.strongRecOn with
  | _ k ih =>
    intro hk ha j hj
    rw [h.d.b k (Nat.zero_le _) hk] at hj
    obtain ⟨e, he, hb, hon⟩ := mask_spec hj
    have he' : e ∈ (O k).after := by simpa using he
    have hlt := early_spec (h.d.e k (Nat.zero_le _) hk) e he hb
    rcases hon with rfl | hon
    · exact ha e he' hb
    · have : ((List.range k).map B).getD e.on 0 = B e.on := by simp [List.getD_eq_getElem?_getD, hlt]
      rw [this] at hon
      exact ih e.on hlt (by omega) (hc e.on (by omega) (ha e he' hb)) j hon
theorem Rk.bit_lt (h : Rk P A call ops O s L B G V) : ∀ (k : Nat), k < ops.size → ∀ j, Nat.testBit (B k) j = true → j < k := by
  intro k
  induction k using Nat.strongRecOn with
  | _ k ih =>
    intro hk j hj
    rw [h.d.b k (Nat.zero_le _) hk] at hj
    obtain ⟨e, he, hb, hon⟩ := mask_spec hj
    have hlt := early_spec (h.d.e k (Nat.zero_le _) hk) e he hb
    rcases hon with rfl | hon
    · exact hlt
    · have : ((List.range k).map B).getD e.on 0 = B e.on := by simp [List.getD_eq_getElem?_getD, hlt]
      rw [this] at hon
      have := ih e.on hlt (by omega) j hon
      omega
/-- i is ready: what it waits for is there, what waits for it is not -/
structure At (ops : Array Oper) (O : Nat → Oper) (B : Nat → Nat) (l : Array Bool) (i : Nat) : Prop where
  lt : i < ops.size
  no : ¬ lis l i
  sz : l.size = ops.size
  before : ∀ j, j < i → Nat.testBit (B i) j = true → lis l j
  behind : ∀ j, i < j → j < ops.size → Nat.testBit (B j) i = true → ¬ lis l j
theorem Rk.at_ (h : Rk P A call ops O s L B G V) {l : Array Bool} (hc : Closed ops O l) (hsz : l.size = ops.size) {i : Nat} (hi : i < ops.size) (hno : ¬ lis l i) (ha : ∀ e ∈ (O i).after, Region.binds .any e = true → lis l e.on) : At ops O B l i :=
  ⟨hi, hno, hsz, fun j hj hb => h.up hc i hi ha j hb, fun j hj hjn hb hl => hno (h.up hc j hjn (hc j hjn hl) i hb)⟩
theorem Rk.slot (h : Rk P A call ops O s L B G V) {l : Array Bool} {i : Nat} (ha : At ops O B l i) {t : Nat} (ht : t ∈ (O i).looksAt ops) : (s i).env t = stE (s 0).env (fun k => (O k).dst) V l ops.size t := by
  have h1 : ∀ n, i ≤ n → n ≤ ops.size → stE (s 0).env (fun k => (O k).dst) V (Array.replicate i true) n t = stE (s 0).env (fun k => (O k).dst) V l n t := fun n h1 h2 => stE_eq n fun k hk hd => by
    rw [lis_all]
    rcases Nat.lt_trichotomy k i with hki | rfl | hki
    · refine ⟨fun _ => ?_, fun _ => hki⟩
      cases hb : Nat.testBit (B i) k
      · exact absurd ht ((Oper.apart_spec (h.apart hki ha.lt hb)).1 t hd)
      · exact ha.before k hki hb
    · exact ⟨fun h => absurd h (by omega), fun h => absurd h ha.no⟩
    · refine ⟨fun h => absurd h (by omega), fun hl => ?_⟩
      cases hb : Nat.testBit (B k) i
      · exact absurd ht ((Oper.apart_spec (h.apart hki (by omega) hb)).2.2 t hd)
      · exact absurd hl (ha.behind k hki (by omega) hb)
  rw [← h1 ops.size (Nat.le_of_lt ha.lt) (Nat.le_refl _), h.env i (Nat.le_of_lt ha.lt)]
  have h2 : ∀ m, stE (s 0).env (fun k => (O k).dst) V (Array.replicate i true) (i + m) t = stE (s 0).env (fun k => (O k).dst) V (Array.replicate i true) i t := fun m => by
    induction m with
    | zero => rfl
    | succ m ih =>
      show stE _ _ _ _ ((i + m) + 1) t = _
      simp only [stE]
      rw [if_neg (by rw [lis_all]; omega), ih]
  rw [show ops.size = i + (ops.size - i) by have := ha.lt; omega, h2]
  refine stE_eq i fun k hk _ => ?_
  rw [lis_all, lis_all]
  have := ha.lt
  omega
theorem Rk.cell (h : Rk P A call ops O s L B G V) (hD : ∀ id, ((s 0).mem id).isSome = true → ¬ ((s 0).nx ≤ id ∧ id < (s ops.size).nx)) {l : Array Bool} {i : Nat} (ha : At ops O B l i) {id : Nat} {b : Blk} (hv : viewOf s B G i id = some b) : stM (s 0).mem L l ops.size id = some b := by
  obtain ⟨v1, v2, v3⟩ := seesOf_sub hv
  have hdom := h.dom (Nat.le_of_lt ha.lt) v1
  have hout : ∀ k, i < k → k < ops.size → ¬ ((s k).nx ≤ id ∧ id < (s (k + 1)).nx) := fun k h1 h2 hr => by
    have n1 := h.nx (i := 0) (j := k) (Nat.zero_le _) (by omega)
    have n2 := h.nx (i := k + 1) (j := ops.size) (by omega) (Nat.le_refl _)
    have n3 := h.nx (i := i) (j := k) (by omega) (by omega)
    rcases hdom with hd | hd
    · exact hD id hd ⟨by omega, by omega⟩
    · omega
  have h1 : ∀ n, i ≤ n → n ≤ ops.size → stM (s 0).mem L (Array.replicate i true) n id = stM (s 0).mem L l n id := fun n h1 h2 => stM_eq n fun k hk hd => by
    rw [lis_all]
    rcases Nat.lt_trichotomy k i with hki | rfl | hki
    · refine ⟨fun _ => ?_, fun _ => hki⟩
      cases hb : Nat.testBit (B i) k
      · exact absurd (h.keys (by have := ha.lt; omega) hd) (v2 _ (h.bes hki hb))
      · exact ha.before k hki hb
    · exact ⟨fun h => absurd h (by omega), fun h => absurd h ha.no⟩
    · refine ⟨fun h => absurd h (by omega), fun hl => ?_⟩
      cases hb : Nat.testBit (B k) i
      · exfalso
        have hkn : k < ops.size := by omega
        have hw : id ∈ (G k).w := by
          rw [h.d.g k (Nat.zero_le _) hkn]
          refine List.mem_filter.2 ⟨by obtain ⟨e, he, rfl⟩ := hd; exact List.mem_map.2 ⟨e, he, rfl⟩, ?_⟩
          have := hout k hki hkn
          cases e1 : Nat.ble (s k).nx id <;> cases e2 : Nat.blt id (s (k + 1)).nx <;> simp
          exact this ⟨Nat.le_of_ble_eq_true e1, by simpa [Nat.blt_eq] using e2⟩
        obtain ⟨ls, hls, hnot⟩ := clear_spec (h.d.c k (Nat.zero_le _) hkn) (h.bes hki hb) hw
        exact hnot (v3 ls hls)
      · exact absurd hl (ha.behind k hki (by omega) hb)
  rw [← h1 ops.size (Nat.le_of_lt ha.lt) (Nat.le_refl _)]
  have h2 : ∀ m, stM (s 0).mem L (Array.replicate i true) (i + m) id = stM (s 0).mem L (Array.replicate i true) i id := fun m => by
    induction m with
    | zero => rfl
    | succ m ih =>
      show stM _ _ _ ((i + m) + 1) id = _
      simp only [stM]
      rw [if_neg (by rw [lis_all]; omega), ih]
  rw [show ops.size = i + (ops.size - i) by have := ha.lt; omega, h2]
  have h3 : stM (s 0).mem L (Array.replicate i true) i id = stM (s 0).mem L (Array.replicate ops.size true) i id := stM_eq i fun k hk _ => by
    rw [lis_all, lis_all]
    have := ha.lt
    omega
  rw [h3, ← h.mem i (Nat.le_of_lt ha.lt)]
  exact v1
/-- nothing that may come later, and has come up, has the same slot, or writes the same block -/
theorem Rk.slot2 (h : Rk P A call ops O s L B G V) {l : Array Bool} {i : Nat} (ha : At ops O B l i) {t k : Nat} (hk : i < k) (hkn : k < ops.size) (hl : lis l k) (hd : (O k).dst = some t) : (O i).dst ≠ some t := fun hi => by
  cases hb : Nat.testBit (B k) i
  · exact (Oper.apart_spec (h.apart hk hkn hb)).2.1 t hi hd
  · exact ha.behind k hk hkn hb hl
theorem Rk.cell2 (h : Rk P A call ops O s L B G V) (hD : ∀ id, ((s 0).mem id).isSome = true → ¬ ((s 0).nx ≤ id ∧ id < (s ops.size).nx)) {l : Array Bool} {i : Nat} (ha : At ops O B l i) {id k : Nat} (hk : i < k) (hkn : k < ops.size) (hl : lis l k) (hd : inK L k id) : ¬ inK L i id := fun hi => by
  cases hb : Nat.testBit (B k) i
  · have h1 := h.keys ha.lt hi
    obtain ⟨e, he, rfl⟩ := hd
    rcases (h.r k hkn).log e he with hv | hv
    · obtain ⟨b, hb'⟩ := Option.isSome_iff_exists.1 hv
      exact (seesOf_sub hb').2.1 _ (h.bes hk hb) h1
    · obtain ⟨f, hf, hfe⟩ := hi
      have n1 := h.nx (i := i + 1) (j := k) hk (by omega)
      have n0 := h.nx (i := 0) (j := k) (by omega) (by omega)
      have n2 := h.nx (i := k + 1) (j := ops.size) (by omega) (Nat.le_refl _)
      rcases (h.r i ha.lt).log f hf with hv2 | hv2
      · obtain ⟨b, hb'⟩ := Option.isSome_iff_exists.1 hv2
        have n3 := h.nx (i := i) (j := i + 1) (by omega) (by have := ha.lt; omega)
        rcases h.dom (Nat.le_of_lt ha.lt) (seesOf_sub hb').1 with hd2 | hd2
        · rw [hfe] at hd2
          exact hD _ hd2 ⟨by omega, by omega⟩
        · omega
      · omega
  · exact ha.behind k hk hkn hb hl
end
end Rx
end Go.Proofs.YtedfdphapcanoaaGreatDoor
