/- Several texts of this claim, one behind the other. -/
import Derived.Test.YtilfcikhipadpaaGreatDoorK4b
import Derived.KernelRfl

section
/- A run reckoned by the kernel: the theorem on regions that draw their order. No program. -/
set_option linter.unusedVariables false
set_option linter.unusedSimpArgs false
namespace Go.Proofs.YtilfcikhipadpaaGreatDoor
open Go.RowKit Go.Lib
namespace Rx
variable {P : Program} {A : Amb}

def viewOf (s : Nat → St) (B : Nat → Nat) (G : Nat → Seg) (i : Nat) : Mem := seesOf (beside (B i) 0 ((List.range i).map G)) (G i).r (s i).mem
def OpC (P : Program) (A : Amb) (ops : Array Oper) (o : Oper) (view : Mem) (st st' : St) (v : Value) (l : Log) : Prop := ∀ (i : Nat) (D : Nat → Prop) (ρ : Nm) (a : Act) (w : World) (K : Act → World → Prop) (Q : Exit → Act → World → Prop), ops[i]? = some o →
      FrOK D ρ (fun t => t ∈ o.looksAt ops) st.env a → MemOK P A D ρ view w → (∀ i, D i → ¬ (st.nx ≤ i ∧ i < st'.nx)) → (∀ ρ' w', Aft P A D ρ view st.nx w v l st'.nx ρ' w' → K (a.put o.dst (ren ρ' v)) w') → wpOp P ops Q i K a w
/-- what is known of such a region's reckoning -/
structure Rk (P : Program) (A : Amb) (call : CallF) (ops : Array Oper) (O : Nat → Oper) (s : Nat → St) (L : Nat → Log) (B : Nat → Nat) (G : Nat → Seg) (V : Nat → Value) : Prop where
  d : Dat P call ops 0 ops.size O s L B G
  r : ∀ i, i < ops.size → OpRes (O i) (viewOf s B G i) (s i) (V i) (L i) (s (i + 1))
theorem seesOf_sub {bes : List Seg} {r : Option (List Nat)} {m : Mem} {id : Nat} {b : Blk} (h : seesOf bes r m id = some b) : m id = some b ∧ (∀ x ∈ bes, ¬ id ∈ x.k) ∧ ∀ l, r = some l → id ∈ l := by
  have has : ∀ (l : List Nat), has1 l id = true ↔ id ∈ l := fun l => by
    unfold has1
    rw [List.any_eq_true]
    constructor
    · rintro ⟨x, hx, he⟩
      rw [← Nat.eq_of_beq_eq_true he]; exact hx
    · intro h; exact ⟨id, h, by simp⟩
  unfold seesOf at h
  cases h1 : bes.any fun s => has1 s.k id <;> simp only [h1, cond] at h
  · have hk : ∀ x ∈ bes, ¬ id ∈ x.k := fun x hx hid => by
      have := List.any_eq_false.1 h1 x hx
      rw [(has x.k).2 hid] at this
      exact this rfl
    split at h
    · rename_i l
      cases h2 : has1 l id <;> simp only [h2, cond] at h
      · cases h
      · exact ⟨h, hk, fun l' e => by cases e; exact (has l).1 h2⟩
    · exact ⟨h, hk, fun l e => by cases e⟩
  · cases h
theorem clear_spec {bes : List Seg} {w : List Nat} (h : clear bes w = true) {x : Seg} (hx : x ∈ bes) {id : Nat} (hid : id ∈ w) : ∃ l, x.r = some l ∧ ¬ id ∈ l := by
  unfold clear at h
  rw [Bool.or_eq_true] at h
  rcases h with h | h
  · rw [List.isEmpty_iff] at h; subst h; cases hid
  · have := List.all_eq_true.1 h x hx
    split at this
    · rename_i l hl
      refine ⟨l, hl, fun hm => ?_⟩
      simp only [Bool.not_eq_true'] at this
      unfold meets at this
      have h2 := List.any_eq_false.1 this id hm
      apply h2
      unfold has1
      exact List.any_eq_true.2 ⟨id, hid, by simp⟩
    · cases this
section
variable {call : CallF} {ops : Array Oper} {O : Nat → Oper} {s : Nat → St} {L : Nat → Log} {B : Nat → Nat} {G : Nat → Seg} {V : Nat → Value}
theorem Rk.oi (h : Rk P A call ops O s L B G V) {i : Nat} (hi : i < ops.size) : ops[i]? = some (O i) := by
  have := h.d.o i (Nat.zero_le _) hi
  rwa [Array.getElem?_toList] at this
theorem Rk.step (h : Rk P A call ops O s L B G V) {i : Nat} (hi : i < ops.size) : Ext (s i) (s (i + 1)) := by
  have k := h.r i hi
  exact ⟨k.nx, k.n, L i, k.mem, k.log.more (fun j hj => by
    obtain ⟨b, hb⟩ := Option.isSome_iff_exists.1 hj
    exact Or.inl (by rw [(seesOf_sub hb).1]; rfl)) (Nat.le_refl _) (Nat.le_refl _), k.logs⟩
theorem Rk.ext (h : Rk P A call ops O s L B G V) : ∀ {i j : Nat}, i ≤ j → j ≤ ops.size → Ext (s i) (s j)
  | i, 0, h1, _ => by rw [Nat.le_zero.1 h1]; exact Ext.refl _
  | i, j + 1, h1, h2 => by
    by_cases e : i = j + 1
    · rw [e]; exact Ext.refl _
    · exact (h.ext (by omega) (by omega)).trans (h.step (by omega))
theorem Rk.nx (h : Rk P A call ops O s L B G V) {i j : Nat} (h1 : i ≤ j) (h2 : j ≤ ops.size) : (s i).nx ≤ (s j).nx := (h.ext h1 h2).nx
theorem Rk.dom (h : Rk P A call ops O s L B G V) {i id : Nat} {b : Blk} (hi : i ≤ ops.size) (hb : (s i).mem id = some b) : ((s 0).mem id).isSome = true ∨ ((s 0).nx ≤ id ∧ id < (s i).nx) := by
  obtain ⟨l, h1, h2, _⟩ := (h.ext (Nat.zero_le i) hi).mem
  rw [h1] at hb
  exact add_dom h2 hb
theorem lis_all {n k : Nat} : lis (Array.replicate n true) k ↔ k < n := by
  unfold lis
  by_cases h : k < n <;> simp [Array.getD_eq_getD_getElem?, h]
theorem Rk.env (h : Rk P A call ops O s L B G V) : ∀ i, i ≤ ops.size → (s i).env = stE (s 0).env (fun k => (O k).dst) V (Array.replicate ops.size true) i
  | 0, _ => rfl
  | i + 1, hi => by
    simp only [stE]
    rw [if_pos (lis_all.2 (by omega)), ← h.env i (by omega)]
    exact (h.r i (by omega)).env
theorem Rk.mem (h : Rk P A call ops O s L B G V) : ∀ i, i ≤ ops.size → (s i).mem = stM (s 0).mem L (Array.replicate ops.size true) i
  | 0, _ => rfl
  | i + 1, hi => by
    simp only [stM]
    rw [if_pos (lis_all.2 (by omega)), ← h.mem i (by omega)]
    exact (h.r i (by omega)).mem
/-- j and i may come in either order -/
theorem Rk.bes (h : Rk P A call ops O s L B G V) {i j : Nat} (hj : j < i) (hb : Nat.testBit (B i) j = false) : G j ∈ beside (B i) 0 ((List.range i).map G) := by
  rw [beside_mem]
  exact ⟨j, by simp [hj], by simpa using hb⟩
theorem Rk.apart (h : Rk P A call ops O s L B G V) {i j : Nat} (hj : j < i) (hi : i < ops.size) (hb : Nat.testBit (B i) j = false) : (O j).apart ops (O i) = true := by
  have h1 := List.all_eq_true.1 (h.d.a i (Nat.zero_le _) hi) _ (h.bes hj hb)
  rw [h.d.g j (Nat.zero_le _) (by omega)] at h1
  exact h1
theorem Rk.keys (h : Rk P A call ops O s L B G V) {j id : Nat} (hj : j < ops.size) (hid : inK L j id) : id ∈ (G j).k := by
  rw [h.d.g j (Nat.zero_le _) hj]
  obtain ⟨e, he, rfl⟩ := hid
  exact List.mem_map.2 ⟨e, he, rfl⟩
/-- all that an operation that has come up waited for has come up -/
def Closed (ops : Array Oper) (O : Nat → Oper) (l : Array Bool) : Prop := ∀ k, k < ops.size → lis l k → ∀ e ∈ (O k).after, Region.binds .any e = true → lis l e.on
theorem Rk.up (h : Rk P A call ops O s L B G V) {l : Array Bool} (hc : Closed ops O l) : ∀ (k : Nat), k < ops.size → (∀ e ∈ (O k).after, Region.binds .any e = true → lis l e.on) → ∀ j, Nat.testBit (B k) j = true → lis l j := by
  intro k
  induction k using Nat.strongRecOn with
  | _ k ih =>
    intro hk ha j hj
    rw [h.d.b k (Nat.zero_le _) hk] at hj
    obtain ⟨e, he, hb, hon⟩ := mask_spec hj
    have he' : e ∈ (O k).after := by simpa using he
    have hlt := early_spec (h.d.e k (Nat.zero_le _) hk) e he hb
    rcases hon with rfl | hon
    · exact ha e he' hb
    · have : ((List.range k).map B).getD e.on 0 = B e.on := by simp [List.getD_eq_getElem?_getD, hlt]
      rw [this] at hon
      exact ih e.on hlt (by omega) (hc e.on (by omega) (ha e he' hb)) j hon
/-- i is ready: what it waits for is there, what waits for it is not -/
structure At (ops : Array Oper) (O : Nat → Oper) (B : Nat → Nat) (l : Array Bool) (i : Nat) : Prop where
  lt : i < ops.size
  no : ¬ lis l i
  sz : l.size = ops.size
  before : ∀ j, j < i → Nat.testBit (B i) j = true → lis l j
  behind : ∀ j, i < j → j < ops.size → Nat.testBit (B j) i = true → ¬ lis l j
theorem Rk.at_ (h : Rk P A call ops O s L B G V) {l : Array Bool} (hc : Closed ops O l) (hsz : l.size = ops.size) {i : Nat} (hi : i < ops.size) (hno : ¬ lis l i) (ha : ∀ e ∈ (O i).after, Region.binds .any e = true → lis l e.on) : At ops O B l i :=
  ⟨hi, hno, hsz, fun j hj hb => h.up hc i hi ha j hb, fun j hj hjn hb hl => hno (h.up hc j hjn (hc j hjn hl) i hb)⟩
theorem Rk.slot (h : Rk P A call ops O s L B G V) {l : Array Bool} {i : Nat} (ha : At ops O B l i) {t : Nat} (ht : t ∈ (O i).looksAt ops) : (s i).env t = stE (s 0).env (fun k => (O k).dst) V l ops.size t := by
  have h1 : ∀ n, i ≤ n → n ≤ ops.size → stE (s 0).env (fun k => (O k).dst) V (Array.replicate i true) n t = stE (s 0).env (fun k => (O k).dst) V l n t := fun n h1 h2 => stE_eq n fun k hk hd => by
    rw [lis_all]
    rcases Nat.lt_trichotomy k i with hki | rfl | hki
    · refine ⟨fun _ => ?_, fun _ => hki⟩
      cases hb : Nat.testBit (B i) k
      · exact absurd ht ((Oper.apart_spec (h.apart hki ha.lt hb)).1 t hd)
      · exact ha.before k hki hb
    · exact ⟨fun h => absurd h (by omega), fun h => absurd h ha.no⟩
    · refine ⟨fun h => absurd h (by omega), fun hl => ?_⟩
      cases hb : Nat.testBit (B k) i
      · exact absurd ht ((Oper.apart_spec (h.apart hki (by omega) hb)).2.2 t hd)
      · exact absurd hl (ha.behind k hki (by omega) hb)
  rw [← h1 ops.size (Nat.le_of_lt ha.lt) (Nat.le_refl _), h.env i (Nat.le_of_lt ha.lt)]
  have h2 : ∀ m, stE (s 0).env (fun k => (O k).dst) V (Array.replicate i true) (i + m) t = stE (s 0).env (fun k => (O k).dst) V (Array.replicate i true) i t := fun m => by
    induction m with
    | zero => rfl
    | succ m ih =>
      show stE _ _ _ _ ((i + m) + 1) t = _
      simp only [stE]
      rw [if_neg (by rw [lis_all]; omega), ih]
  rw [show ops.size = i + (ops.size - i) by have := ha.lt; omega, h2]
  refine stE_eq i fun k hk _ => ?_
  rw [lis_all, lis_all]
  have := ha.lt
  omega
theorem Rk.cell (h : Rk P A call ops O s L B G V) (hD : ∀ id, ((s 0).mem id).isSome = true → ¬ ((s 0).nx ≤ id ∧ id < (s ops.size).nx)) {l : Array Bool} {i : Nat} (ha : At ops O B l i) {id : Nat} {b : Blk} (hv : viewOf s B G i id = some b) : stM (s 0).mem L l ops.size id = some b := by
  obtain ⟨v1, v2, v3⟩ := seesOf_sub hv
  have hdom := h.dom (Nat.le_of_lt ha.lt) v1
  have hout : ∀ k, i < k → k < ops.size → ¬ ((s k).nx ≤ id ∧ id < (s (k + 1)).nx) := fun k h1 h2 hr => by
    have n1 := h.nx (i := 0) (j := k) (Nat.zero_le _) (by omega)
    have n2 := h.nx (i := k + 1) (j := ops.size) (by omega) (Nat.le_refl _)
    have n3 := h.nx (i := i) (j := k) (by omega) (by omega)
    rcases hdom with hd | hd
    · exact hD id hd ⟨by omega, by omega⟩
    · omega
  have h1 : ∀ n, i ≤ n → n ≤ ops.size → stM (s 0).mem L (Array.replicate i true) n id = stM (s 0).mem L l n id := fun n h1 h2 => stM_eq n fun k hk hd => by
    rw [lis_all]
    rcases Nat.lt_trichotomy k i with hki | rfl | hki
    · refine ⟨fun _ => ?_, fun _ => hki⟩
      cases hb : Nat.testBit (B i) k
      · exact absurd (h.keys (by have := ha.lt; omega) hd) (v2 _ (h.bes hki hb))
      · exact ha.before k hki hb
    · exact ⟨fun h => absurd h (by omega), fun h => absurd h ha.no⟩
    · refine ⟨fun h => absurd h (by omega), fun hl => ?_⟩
      cases hb : Nat.testBit (B k) i
      · exfalso
        have hkn : k < ops.size := by omega
        have hw : id ∈ (G k).w := by
          rw [h.d.g k (Nat.zero_le _) hkn]
          refine List.mem_filter.2 ⟨by obtain ⟨e, he, rfl⟩ := hd; exact List.mem_map.2 ⟨e, he, rfl⟩, ?_⟩
          have := hout k hki hkn
          cases e1 : Nat.ble (s k).nx id <;> cases e2 : Nat.blt id (s (k + 1)).nx <;> simp
          exact this ⟨Nat.le_of_ble_eq_true e1, by simpa [Nat.blt_eq] using e2⟩
        obtain ⟨ls, hls, hnot⟩ := clear_spec (h.d.c k (Nat.zero_le _) hkn) (h.bes hki hb) hw
        exact hnot (v3 ls hls)
      · exact absurd hl (ha.behind k hki (by omega) hb)
  rw [← h1 ops.size (Nat.le_of_lt ha.lt) (Nat.le_refl _)]
  have h2 : ∀ m, stM (s 0).mem L (Array.replicate i true) (i + m) id = stM (s 0).mem L (Array.replicate i true) i id := fun m => by
    induction m with
    | zero => rfl
    | succ m ih =>
      show stM _ _ _ ((i + m) + 1) id = _
      simp only [stM]
      rw [if_neg (by rw [lis_all]; omega), ih]
  rw [show ops.size = i + (ops.size - i) by have := ha.lt; omega, h2]
  have h3 : stM (s 0).mem L (Array.replicate i true) i id = stM (s 0).mem L (Array.replicate ops.size true) i id := stM_eq i fun k hk _ => by
    rw [lis_all, lis_all]
    have := ha.lt
    omega
  rw [h3, ← h.mem i (Nat.le_of_lt ha.lt)]
  exact v1
/-- nothing that may come later, and has come up, has the same slot, or writes the same block -/
theorem Rk.slot2 (h : Rk P A call ops O s L B G V) {l : Array Bool} {i : Nat} (ha : At ops O B l i) {t k : Nat} (hk : i < k) (hkn : k < ops.size) (hl : lis l k) (hd : (O k).dst = some t) : (O i).dst ≠ some t := fun hi => by
  cases hb : Nat.testBit (B k) i
  · exact (Oper.apart_spec (h.apart hk hkn hb)).2.1 t hi hd
  · exact ha.behind k hk hkn hb hl
theorem Rk.cell2 (h : Rk P A call ops O s L B G V) (hD : ∀ id, ((s 0).mem id).isSome = true → ¬ ((s 0).nx ≤ id ∧ id < (s ops.size).nx)) {l : Array Bool} {i : Nat} (ha : At ops O B l i) {id k : Nat} (hk : i < k) (hkn : k < ops.size) (hl : lis l k) (hd : inK L k id) : ¬ inK L i id := fun hi => by
  cases hb : Nat.testBit (B k) i
  · have h1 := h.keys ha.lt hi
    obtain ⟨e, he, rfl⟩ := hd
    rcases (h.r k hkn).log e he with hv | hv
    · obtain ⟨b, hb'⟩ := Option.isSome_iff_exists.1 hv
      exact (seesOf_sub hb').2.1 _ (h.bes hk hb) h1
    · obtain ⟨f, hf, hfe⟩ := hi
      have n1 := h.nx (i := i + 1) (j := k) hk (by omega)
      have n0 := h.nx (i := 0) (j := k) (by omega) (by omega)
      have n2 := h.nx (i := k + 1) (j := ops.size) (by omega) (Nat.le_refl _)
      rcases (h.r i ha.lt).log f hf with hv2 | hv2
      · obtain ⟨b, hb'⟩ := Option.isSome_iff_exists.1 hv2
        have n3 := h.nx (i := i) (j := i + 1) (by omega) (by have := ha.lt; omega)
        rcases h.dom (Nat.le_of_lt ha.lt) (seesOf_sub hb').1 with hd2 | hd2
        · rw [hfe] at hd2
          exact hD _ hd2 ⟨by omega, by omega⟩
        · omega
      · omega
  · exact ha.behind k hk hkn hb hl
end
end Rx
end Go.Proofs.YtilfcikhipadpaaGreatDoor
end

section
/- A run reckoned by the kernel: each order of a region that draws comes to where the text's own order comes. No program. -/
set_option linter.unusedVariables false
set_option linter.unusedSimpArgs false
namespace Go.Proofs.YtilfcikhipadpaaGreatDoor
open Go.RowKit Go.Lib
namespace Rx
variable {P : Program} {A : Amb}
section
variable {call : CallF} {ops : Array Oper} {O : Nat → Oper} {s : Nat → St} {L : Nat → Log} {B : Nat → Nat} {G : Nat → Seg} {V : Nat → Value}
def Dl (ops : Array Oper) (s : Nat → St) (D : Nat → Prop) (l : Array Bool) (id : Nat) : Prop := D id ∨ ∃ k, k < ops.size ∧ lis l k ∧ (s k).nx ≤ id ∧ id < (s (k + 1)).nx
/-- where the region stands when the operations of l have come up -/
structure Stage (P : Program) (A : Amb) (ops : Array Oper) (O : Nat → Oper) (s : Nat → St) (L : Nat → Log) (V : Nat → Value) (D : Nat → Prop) (ρ0 : Nm) (w0 : World) (l : Array Bool) (ρ : Nm) (a : Act) (w : World) : Prop where
  sz : l.size = ops.size
  closed : Closed ops O l
  asz : a.tmps.size = (s 0).n
  defers : a.defers = []
  same : ∀ id, (∀ k, k < ops.size → lis l k → ¬ ((s k).nx ≤ id ∧ id < (s (k + 1)).nx)) → ρ id = ρ0 id
  fr : ∀ t u, stE (s 0).env (fun k => (O k).dst) V l ops.size t = some u → a.tmps[t]? = some (ren ρ u) ∧ Fit (Dl ops s D l) u
  mem : MemOK P A (Dl ops s D l) ρ (stM (s 0).mem L l ops.size) w
  kept : Kept (owns ρ0 (s 0).mem) w0 w
  new : ∀ id b, (s 0).nx ≤ id → id < (s ops.size).nx → stM (s 0).mem L l ops.size id = some b → w0.heap.size ≤ (ρ id).1 ∨ owns ρ0 (s 0).mem (ρ id).1
theorem lis_set {l : Array Bool} {i k : Nat} (hi : i < l.size) : lis (l.setIfInBounds i true) k ↔ k = i ∨ lis l k := by
  unfold lis
  by_cases e : k = i
  · subst e; simp [hi]
  · simp [Array.getD_eq_getD_getElem?, Array.getElem?_setIfInBounds_ne (fun h => e h.symm), e]
theorem Rk.stage (h : Rk P A call ops O s L B G V) {D : Nat → Prop} {ρ0 ρ : Nm} {w0 w : World} {l : Array Bool} {a : Act} (hD : ∀ id, D id → ¬ ((s 0).nx ≤ id ∧ id < (s ops.size).nx)) (hm0 : ∀ id, ((s 0).mem id).isSome = true → D id)
    (hs : Stage P A ops O s L V D ρ0 w0 l ρ a w) {i : Nat} (ha : At ops O B l i) (hal : ∀ e ∈ (O i).after, Region.binds .any e = true → lis l e.on) {ρ' : Nm} {w' : World}
    (k : Aft P A (Dl ops s D l) ρ (viewOf s B G i) (s i).nx w (V i) (L i) (s (i + 1)).nx ρ' w') : Stage P A ops O s L V D ρ0 w0 (l.setIfInBounds i true) ρ' (a.put (O i).dst (ren ρ' (V i))) w' := by
  have hi := ha.lt
  have hil : i < l.size := by rw [ha.sz]; exact hi
  have hr := h.r i hi
  have hD' : ∀ id, ((s 0).mem id).isSome = true → ¬ ((s 0).nx ≤ id ∧ id < (s ops.size).nx) := fun id hid => hD id (hm0 id hid)
  have n0 : (s 0).nx ≤ (s i).nx := h.nx (Nat.zero_le _) (Nat.le_of_lt hi)
  have n1 : (s i).nx ≤ (s (i + 1)).nx := h.nx (Nat.le_succ _) hi
  have n2 : (s (i + 1)).nx ≤ (s ops.size).nx := h.nx hi (Nat.le_refl _)
  have disj : ∀ id, Dl ops s D l id → ¬ ((s i).nx ≤ id ∧ id < (s (i + 1)).nx) := fun id hid hr => by
    rcases hid with hid | ⟨k, hk, hl, h1, h2⟩
    · exact hD id hid ⟨by omega, by omega⟩
    · rcases Nat.lt_trichotomy k i with hki | rfl | hki
      · have := h.nx (i := k + 1) (j := i) hki (by omega)
        omega
      · exact ha.no hl
      · have := h.nx (i := i + 1) (j := k) hki (by omega)
        omega
  have hold : ∀ id, Dl ops s D l id → ρ' id = ρ id := fun id hid => k.same id (disj id hid)
  have oldv : ∀ {u : Value}, Fit (Dl ops s D l) u → ren ρ' u = ren ρ u := fun hu => hu ρ' ρ hold
  have hDl : ∀ id, Rx.ext (Dl ops s D l) (s i).nx (s (i + 1)).nx id → Dl ops s D (l.setIfInBounds i true) id := fun id hid => by
    rcases hid with (hid | ⟨k, hk, hl, h1, h2⟩) | hid
    · exact Or.inl hid
    · exact Or.inr ⟨k, hk, (lis_set hil).2 (Or.inr hl), h1, h2⟩
    · exact Or.inr ⟨i, hi, (lis_set hil).2 (Or.inl rfl), hid⟩
  have hmem : ∀ id, stM (s 0).mem L (l.setIfInBounds i true) ops.size id = (stM (s 0).mem L l ops.size).add (L i) id := fun id =>
    stM_put hil ops.size hi fun k h1 h2 hl hd => h.cell2 hD' ha h1 h2 hl hd
  have hview : ∀ {id : Nat} {b : Blk}, viewOf s B G i id = some b → stM (s 0).mem L l ops.size id = some b := fun hv => h.cell hD' ha hv
  have cls : ∀ {id : Nat} {b : Blk}, stM (s 0).mem L (l.setIfInBounds i true) ops.size id = some b → (viewOf s B G i).add (L i) id = some b ∨ (stM (s 0).mem L l ops.size id = some b ∧ viewOf s B G i id = none) := fun {id b} e => by
    rw [hmem] at e
    by_cases hk : inK L i id
    · left; rw [← e]; exact add_in hk
    · rw [add_out hk] at e
      cases hv : viewOf s B G i id with
      | none => exact Or.inr ⟨e, rfl⟩
      | some c =>
        left
        rw [add_out hk, hv, ← e, hview hv]
  have h1dom : ∀ {id : Nat} {b : Blk}, (viewOf s B G i).add (L i) id = some b → (∃ c, viewOf s B G i id = some c) ∨ ((s i).nx ≤ id ∧ id < (s (i + 1)).nx) := fun e => by
    rcases add_dom hr.log e with h0 | h0
    · exact Or.inl (Option.isSome_iff_exists.1 h0)
    · exact Or.inr h0
  have hnot : ∀ {id : Nat} {b : Blk}, stM (s 0).mem L l ops.size id = some b → viewOf s B G i id = none → ¬ owns ρ (viewOf s B G i) (ρ id).1 := fun {id b} e hn ⟨j, c, hj, he⟩ => by
    have hne : id ≠ j := fun h => by rw [h, hj] at hn; cases hn
    exact hs.mem.inj e (hview hj) hne he
  have hown : ∀ b, owns ρ (viewOf s B G i) b → w0.heap.size ≤ b ∨ owns ρ0 (s 0).mem b := fun b ⟨id, c, hc, hb⟩ => by
    subst hb
    have e := hview hc
    have hv := seesOf_sub hc
    rcases h.dom (Nat.le_of_lt hi) hv.1 with hd | hd
    · obtain ⟨c', hc'⟩ := Option.isSome_iff_exists.1 hd
      have hdd := hD' id hd
      refine Or.inr ⟨id, c', hc', ?_⟩
      rw [hs.same id fun q hq hl hr => hdd ?_]
      have m1 := h.nx (i := 0) (j := q) (by omega) (by omega)
      have m2 := h.nx (i := q + 1) (j := ops.size) hq (Nat.le_refl _)
      exact ⟨by omega, by omega⟩
    · exact hs.new id c hd.1 (by omega) e
  refine ⟨by simp [hs.sz], fun q hq hl e he hb => ?_, by rw [put_size]; exact hs.asz, by rw [put_defers_]; exact hs.defers, fun id hid => ?_, fun t u hu => ?_, ⟨k.mem.s, fun {id b} e => ?_, fun {id cs T r} e v hv => ?_, fun {id cs T r} e => ?_, fun {id j b c} e f hij => ?_⟩, ?_, fun id b h1 h2 e => ?_⟩
  · rcases (lis_set hil).1 hl with rfl | hl
    · exact (lis_set hil).2 (Or.inr (hal e he hb))
    · exact (lis_set hil).2 (Or.inr (hs.closed q hq hl e he hb))
  · rw [k.same id (hid i hi ((lis_set hil).2 (Or.inl rfl)))]
    exact hs.same id fun q hq hl => hid q hq ((lis_set hil).2 (Or.inr hl))
  · rw [stE_put hil ops.size hi fun q h1 h2 hl hd => h.slot2 ha h1 h2 hl hd] at hu
    by_cases hd : (O i).dst = some t
    · rw [if_pos hd] at hu
      simp only [Option.some.injEq] at hu
      subst hu
      have hlt : t < a.tmps.size := by rw [hs.asz]; have := hr.lt t hd; rw [(h.ext (Nat.zero_le i) (Nat.le_of_lt hi)).n] at this; exact this
      rw [hd, put_get hlt, if_pos rfl]
      exact ⟨rfl, k.fit.mono hDl⟩
    · rw [if_neg hd] at hu
      obtain ⟨h1, h2⟩ := hs.fr t u hu
      refine ⟨?_, h2.mono fun id hid => hDl id (Or.inl hid)⟩
      rw [oldv h2]
      cases hdd : (O i).dst with
      | none => exact h1
      | some d =>
        have hlt : d < a.tmps.size := by rw [hs.asz]; have := hr.lt d hdd; rw [(h.ext (Nat.zero_le i) (Nat.le_of_lt hi)).n] at this; exact this
        rw [put_get hlt, if_neg (fun e => hd (by rw [hdd, e]))]
        exact h1
  · rcases cls e with e | ⟨e, hn⟩
    · exact ⟨hDl id (k.mem.dom e).1, (k.mem.dom e).2⟩
    · have := hs.mem.dom e
      exact ⟨hDl id (Or.inl this.1), by rw [hold id this.1]; exact this.2⟩
  · rcases cls e with e | ⟨e, hn⟩
    · exact (k.mem.fit e v hv).mono hDl
    · exact (hs.mem.fit e v hv).mono fun id hid => hDl id (Or.inl hid)
  · rcases cls e with e | ⟨e, hn⟩
    · exact k.mem.lies e
    · have hd := (hs.mem.dom e).1
      rw [hold id hd]
      exact ((hs.mem.lies e).same (k.kept.block _ (hs.mem.lies e).lt (hnot e hn))).ren (hs.mem.fit e) fun j hj => (hold j hj).symm
  · rcases cls e with e | ⟨e, hn⟩ <;> rcases cls f with f | ⟨f, hn'⟩
    · exact k.mem.inj e f hij
    · rw [hold j (hs.mem.dom f).1]
      rcases h1dom e with ⟨c', hc'⟩ | hrng
      · have e2 := hview hc'
        rw [hold id (hs.mem.dom e2).1]
        exact hs.mem.inj e2 f hij
      · rcases k.new id b hrng.1 hrng.2 e with h9 | h9
        · have := hs.mem.lt f
          omega
        · exact fun heq => hnot f hn' (heq ▸ h9)
    · rw [hold id (hs.mem.dom e).1]
      rcases h1dom f with ⟨c', hc'⟩ | hrng
      · have f2 := hview hc'
        rw [hold j (hs.mem.dom f2).1]
        exact hs.mem.inj e f2 hij
      · rcases k.new j c hrng.1 hrng.2 f with h9 | h9
        · have := hs.mem.lt e
          omega
        · exact fun heq => hnot e hn (heq.symm ▸ h9)
    · rw [hold id (hs.mem.dom e).1, hold j (hs.mem.dom f).1]
      exact hs.mem.inj e f hij
  · refine Kept.trans hs.kept k.kept (fun _ _ h => h) fun b hb hk => ?_
    rcases hown b hk with h9 | h9
    · omega
    · exact h9
  · by_cases hrng : (s i).nx ≤ id ∧ id < (s (i + 1)).nx
    · rcases cls e with e | ⟨e, hn⟩
      · rcases k.new id b hrng.1 hrng.2 e with h9 | h9
        · have := hs.kept.size
          exact Or.inl (by omega)
        · exact hown _ h9
      · exact absurd hrng (disj id (hs.mem.dom e).1)
    · rw [k.same id hrng]
      rcases cls e with e | ⟨e, hn⟩
      · rcases h1dom e with ⟨c', hc'⟩ | hr2
        · exact hs.new id c' h1 h2 (hview hc')
        · exact absurd hr2 hrng
      · exact hs.new id b h1 h2 e
theorem Rk.run (h : Rk P A call ops O s L B G V) (hc : ∀ i, i < ops.size → OpC P A ops (O i) (viewOf s B G i) (s i) (s (i + 1)) (V i) (L i)) {D : Nat → Prop} {ρ0 : Nm} {w0 : World} (hD : ∀ id, D id → ¬ ((s 0).nx ≤ id ∧ id < (s ops.size).nx)) (hm0 : ∀ id, ((s 0).mem id).isSome = true → D id)
    {Q : Exit → Act → World → Prop} (hQ : ∀ ρ a w l, Stage P A ops O s L V D ρ0 w0 l ρ a w → (∀ k, k < ops.size → lis l k) → Q .normal a w) :
    ∀ (f : Nat) (l : Array Bool) (ρ : Nm) (a : Act) (w : World), (List.range ops.size).countP (fun k => !decide (lis l k)) ≤ f → Stage P A ops O s L V D ρ0 w0 l ρ a w → wpAny P .any ops Q f l a w := by
  have ready_of : ∀ {l : Array Bool} {i : Nat}, l.size = ops.size → (i ∈ Region.ready .any ops l ↔ i < ops.size ∧ ¬ lis l i ∧ ∀ e ∈ (O i).after, Region.binds .any e = true → lis l e.on) := fun {l i} hsz => by
    rw [mem_ready]
    unfold lis
    constructor
    · rintro ⟨h1, o, ho, h2⟩
      have hi : i < ops.size := (Array.getElem?_eq_some_iff.1 ho).1
      have : o = O i := by have := h.oi hi; rw [ho] at this; simpa using this
      subst this
      refine ⟨hi, ?_, h2⟩
      have hil : i < l.size := by omega
      simp only [Array.getD_eq_getD_getElem?, Array.getElem?_eq_getElem hil, Option.getD_some] at h1 ⊢
      simp [h1]
    · rintro ⟨hi, h1, h2⟩
      refine ⟨?_, O i, h.oi hi, h2⟩
      have hil : i < l.size := by omega
      simp only [Array.getD_eq_getD_getElem?, Array.getElem?_eq_getElem hil, Option.getD_some] at h1 ⊢
      simpa using h1
  have none_ready : ∀ {l : Array Bool}, l.size = ops.size → Region.ready .any ops l = [] → ∀ k, k < ops.size → lis l k := fun {l} hsz hr k => by
    induction k using Nat.strongRecOn with
    | _ k ih =>
      intro hk
      apply Decidable.byContradiction
      intro hno
      have : k ∈ Region.ready .any ops l := (ready_of hsz).2 ⟨hk, hno, fun e he hb => ih e.on (early_spec (h.d.e k (Nat.zero_le _) hk) e (by simpa using he) hb) (by have := early_spec (h.d.e k (Nat.zero_le _) hk) e (by simpa using he) hb; omega)⟩
      rw [hr] at this
      cases this
  intro f
  induction f with
  | zero =>
    intro l ρ a w hcnt hs
    have hall : ∀ k, k < ops.size → lis l k := fun k hk => by
      have := List.countP_eq_zero.1 (Nat.le_zero.1 hcnt) k (by simpa using hk)
      simpa using this
    refine ⟨?_, hQ ρ a w l hs hall⟩
    cases hr : Region.ready .any ops l with
    | nil => rfl
    | cons i r =>
      have : i ∈ Region.ready .any ops l := by rw [hr]; simp
      have := (ready_of hs.sz).1 this
      exact absurd (hall i this.1) this.2.1
  | succ f ih =>
    intro l ρ a w hcnt hs
    refine ⟨fun hr => hQ ρ a w l hs (none_ready hs.sz hr), fun i hi => ?_⟩
    obtain ⟨h1, h2, h3⟩ := (ready_of hs.sz).1 hi
    have hat := h.at_ hs.closed hs.sz h1 h2 h3
    have hil : i < l.size := by rw [hs.sz]; exact h1
    have hD' : ∀ id, ((s 0).mem id).isSome = true → ¬ ((s 0).nx ≤ id ∧ id < (s ops.size).nx) := fun id hid => hD id (hm0 id hid)
    have hview : ∀ {id : Nat} {b : Blk}, viewOf s B G i id = some b → stM (s 0).mem L l ops.size id = some b := fun hv => h.cell hD' hat hv
    have n0 : (s 0).nx ≤ (s i).nx := h.nx (Nat.zero_le _) (Nat.le_of_lt h1)
    have n2 : (s (i + 1)).nx ≤ (s ops.size).nx := h.nx h1 (Nat.le_refl _)
    refine hc i h1 i (Dl ops s D l) ρ a w _ Q (h.oi h1) (fun t u ht hu => ?_) ⟨hs.mem.s, fun e => hs.mem.dom (hview e), fun e => hs.mem.fit (hview e), fun e => hs.mem.lies (hview e), fun e f => hs.mem.inj (hview e) (hview f)⟩ (fun id hid hr => ?_) (fun ρ' w' k => ?_)
    · rw [h.slot hat ht] at hu
      exact hs.fr t u hu
    · rcases hid with hid | ⟨k, hk, hl, h1', h2'⟩
      · exact hD id hid ⟨by omega, by omega⟩
      · rcases Nat.lt_trichotomy k i with hki | rfl | hki
        · have := h.nx (i := k + 1) (j := i) hki (by omega)
          omega
        · exact h2 hl
        · have := h.nx (i := i + 1) (j := k) hki (by omega)
          omega
    · refine ih _ ρ' _ w' ?_ (h.stage hD hm0 hs hat h3 k)
      have hlt : (List.range ops.size).countP (fun k => !decide (lis (l.setIfInBounds i true) k)) < (List.range ops.size).countP (fun k => !decide (lis l k)) := by
        have gen : ∀ (xs : List Nat), i ∈ xs → xs.countP (fun k => !decide (lis (l.setIfInBounds i true) k)) < xs.countP (fun k => !decide (lis l k)) := by
          have le : ∀ (xs : List Nat), xs.countP (fun k => !decide (lis (l.setIfInBounds i true) k)) ≤ xs.countP (fun k => !decide (lis l k)) := fun xs =>
            List.countP_mono_left fun x _ hx => by
              simp only [Bool.not_eq_true', decide_eq_false_iff_not] at hx ⊢
              exact fun hl => hx ((lis_set hil).2 (Or.inr hl))
          intro xs
          induction xs with
          | nil => intro h; cases h
          | cons x xs ihx =>
            intro hx
            rw [List.countP_cons, List.countP_cons]
            by_cases e : x = i
            · subst e
              rw [if_neg (by simp [lis_set hil]), if_pos (by simp [h2])]
              have := le xs
              omega
            · have := ihx ((List.mem_cons.1 hx).resolve_left fun h => e h.symm)
              by_cases hl : lis l x
              · rw [if_neg (by simp [lis_set hil, hl]), if_neg (by simp [hl])]; omega
              · rw [if_pos (by simp [lis_set hil, hl, e]), if_pos (by simp [hl])]; omega
        exact gen _ (by simpa using h1)
      omega
end
theorem Sound.all {f : Nat → Ts} {C : Nat → Prop} : ∀ (n : Nat), (∀ i, i < n → Sound P A (f i) (f (i + 1)) (C i)) → Sound P A (f 0) (f n) (∀ i, i < n → C i)
  | 0, _ => Sound.refl fun i h => (by omega)
  | n + 1, h => (Sound.all n fun i hi => h i (by omega)).bind ((h n (by omega)).mono fun hn ha i hi => by
      by_cases e : i = n
      · rw [e]; exact hn
      · exact ha i (by omega))
theorem runDraw_S {call : CallF} (hc : CallS P A call) {ops : Array Oper} {st st' : St} (h : runDraw P call ops ops.toList [] [] st = some st') :
    StepS P A (fun K a w => ∀ Q : Exit → Act → World → Prop, (∀ a w, K a w → Q .normal a w) → wpAny P .any ops Q ops.size (Array.replicate ops.size false) a w) st st' := by
  obtain ⟨O, s, L, B, G, hdat, h0, hn, _, _⟩ := dat_of ops.toList [] [] st st' rfl (by simp) h
  have hdat : Dat P call ops 0 ops.size O s L B G := hdat
  have h0 : s 0 = st := h0
  have hex : ∀ i, ∃ v, i < ops.size → OpRes (O i) (viewOf s B G i) (s i) v (L i) (s (i + 1)) ∧ Sound P A (s i).ts (s (i + 1)).ts (OpC P A ops (O i) (viewOf s B G i) (s i) (s (i + 1)) v (L i)) := fun i => by
    by_cases hi : i < ops.size
    · have hr := hdat.r i (Nat.zero_le _) hi
      obtain ⟨v, h1, h2⟩ := runOp_S hc hr (T := fun t => t ∈ (O i).looksAt ops) (fun x u hx => by
        obtain ⟨k1, k2⟩ := Looks.restr (O i) (s i).env x u hx
        exact ⟨k1, fun t ht => List.mem_append_left _ (List.mem_filterMap.2 ⟨.tmp t, k2 t ht, rfl⟩)⟩) (fun d hd => List.mem_append_right _ hd)
      exact ⟨v, fun _ => ⟨h1, h2⟩⟩
    · exact ⟨undef, fun h => absurd h hi⟩
  let V : Nat → Value := fun i => Classical.choose (hex i)
  have hV : ∀ i, i < ops.size → OpRes (O i) (viewOf s B G i) (s i) (V i) (L i) (s (i + 1)) ∧ Sound P A (s i).ts (s (i + 1)).ts (OpC P A ops (O i) (viewOf s B G i) (s i) (s (i + 1)) (V i) (L i)) := fun i => Classical.choose_spec (hex i)
  have hk : Rk P A call ops O s L B G V := ⟨hdat, fun i hi => (hV i hi).1⟩
  refine ⟨by rw [← h0, ← hn]; exact hk.ext (Nat.zero_le _) (Nat.le_refl _), ?_⟩
  have hS := Sound.all (P := P) (A := A) (f := fun i => (s i).ts) ops.size fun i hi => (hV i hi).2
  simp only [h0, hn] at hS
  refine hS.mono fun hC D ρ a w K ho hD hK Q hq => ?_
  subst h0 hn
  have hnl : ∀ k, ¬ lis (Array.replicate ops.size false) k := fun k hl => by
    unfold lis at hl
    by_cases hk : k < ops.size <;> simp [Array.getD_eq_getD_getElem?, hk] at hl
  have e0 : ∀ n, stE (s 0).env (fun k => (O k).dst) V (Array.replicate ops.size false) n = (s 0).env := fun n => by
    induction n with
    | zero => rfl
    | succ n ih => simp only [stE]; rw [if_neg (hnl n), ih]
  have m0 : ∀ n, stM (s 0).mem L (Array.replicate ops.size false) n = (s 0).mem := fun n => by
    induction n with
    | zero => rfl
    | succ n ih => simp only [stM]; rw [if_neg (hnl n), ih]
  have hm0 : ∀ id, ((s 0).mem id).isSome = true → D id := fun id hid => by
    obtain ⟨b, hb⟩ := Option.isSome_iff_exists.1 hid
    exact (ho.mem.dom hb).1
  refine hk.run hC hD hm0 (ρ0 := ρ) (w0 := w) (fun ρ' a' w' l hs hall => hq a' w' (hK ρ' a' w' ?_)) ops.size _ ρ a w (by
    have := List.countP_le_length (p := fun k => !decide (lis (Array.replicate ops.size false) k)) (l := List.range ops.size)
    simpa using this) ⟨by simp, fun k _ hl => absurd hl (hnl k), ho.size, ho.defers, fun _ _ => rfl, fun t u hu => ?_, ?_, Kept.refl _ _, fun id b h1 h2 e => ?_⟩
  · have ea : ∀ t, stE (s 0).env (fun k => (O k).dst) V l ops.size t = (s ops.size).env t := fun t => by
      rw [hk.env ops.size (Nat.le_refl _)]
      exact stE_eq _ fun k hkk _ => by rw [lis_all]; exact ⟨fun _ => hkk, fun _ => hall k hkk⟩
    have em : ∀ id, stM (s 0).mem L l ops.size id = (s ops.size).mem id := fun id => by
      rw [hk.mem ops.size (Nat.le_refl _)]
      exact stM_eq _ fun k hkk _ => by rw [lis_all]; exact ⟨fun _ => hkk, fun _ => hall k hkk⟩
    have em : stM (s 0).mem L l ops.size = (s ops.size).mem := funext em
    have hsub : ∀ id, Dl ops s D l id → ext D (s 0).nx (s ops.size).nx id := fun id hid => by
      rcases hid with hid | ⟨k, hkk, _, h1, h2⟩
      · exact Or.inl hid
      · have m1 := hk.nx (i := 0) (j := k) (by omega) (by omega)
        have m2 := hk.nx (i := k + 1) (j := ops.size) hkk (Nat.le_refl _)
        exact Or.inr ⟨by omega, by omega⟩
    refine ⟨fun id hid => hs.same id fun k hkk _ hr => ?_, ⟨fun t u _ hu => ?_, by rw [hs.asz, (hk.ext (Nat.zero_le _) (Nat.le_refl _)).n], hs.defers, by rw [← em]; exact hs.mem.mono hsub⟩, hs.kept, fun id b h1 h2 e => hs.new id b h1 h2 (by rw [em]; exact e)⟩
    · have m1 := hk.nx (i := 0) (j := k) (by omega) (by omega)
      have m2 := hk.nx (i := k + 1) (j := ops.size) hkk (Nat.le_refl _)
      exact hid ⟨by omega, by omega⟩
    · obtain ⟨h1, h2⟩ := hs.fr t u (by rw [ea]; exact hu)
      exact ⟨h1, h2.mono hsub⟩
  · rw [e0] at hu
    obtain ⟨h1, h2⟩ := ho.fr t u trivial hu
    exact ⟨h1, h2.mono fun _ => Or.inl⟩
  · rw [m0]; exact ho.mem.mono fun _ => Or.inl
  · rw [m0] at e
    exact absurd ⟨h1, h2⟩ (hD id (hm0 id (by rw [e]; rfl)))
end Rx
end Go.Proofs.YtilfcikhipadpaaGreatDoor
end

section
/- A run reckoned by the kernel: code, calls, and what it is good for. No program. -/
set_option linter.unusedVariables false
set_option linter.unusedSimpArgs false
namespace Go.Proofs.YtilfcikhipadpaaGreatDoor
open Go.RowKit Go.Lib
namespace Rx
variable {P : Program} {A : Amb}

/-- the code c, run from st, is left by x at st' -/
def CodeS (P : Program) (A : Amb) (c : Code) (st : St) (x : X) (st' : St) : Prop :=
  Ext st st' ∧ Sound P A st.ts st'.ts (∀ (D : Nat → Prop) (ρ : Nm) (a : Act) (w : World) (Q : Exit → Act → World → Prop), StOK P A D ρ st a w → (∀ i, D i → ¬ (st.nx ≤ i ∧ i < st'.nx)) →
    (∀ ρ' a' w', StAft P A D ρ st w st' ρ' a' w' → Q (exitOf x) a' w') → c.wp P Q a w)
theorem CodeS.nil {c : Code} {st : St} {x : X} (h : ∀ (Q : Exit → Act → World → Prop) a w, Q (exitOf x) a w → c.wp P Q a w) : CodeS P A c st x st :=
  ⟨Ext.refl _, Sound.refl fun D ρ a w Q hs hD hk => h Q a w (hk ρ a w (StAft.refl hs))⟩
theorem CodeS.seq {a b : Code} {s0 s1 s2 : St} {x : X} (h : CodeS P A a s0 .nrm s1) (k : CodeS P A b s1 x s2) : CodeS P A (.seq a b) s0 x s2 := by
  obtain ⟨h1, h2⟩ := h
  obtain ⟨k1, k2⟩ := k
  refine ⟨h1.trans k1, h2.bind (k2.mono fun k' h' D ρ ac w Q hs hD hk => wp_seq (h' D ρ ac w _ hs (fun i hi => fun ⟨x, y⟩ => hD i hi ⟨x, by have := k1.nx; omega⟩) fun ρ1 a1 w1 h3 => ?_))⟩
  exact k' _ ρ1 a1 w1 Q h3.ok (ext_disj hD h1.nx) fun ρ2 a2 w2 h4 => hk ρ2 a2 w2 (StAft.trans h1 k1 hs.mem hD h3 h4)
theorem StOK.drew {D : Nat → Prop} {ρ : Nm} {st : St} {a : Act} {w : World} (h : StOK P A D ρ st a w) : StOK P A D ρ st a { w with drawn := w.drawn + 1 } :=
  ⟨h.fr, h.size, h.defers, h.mem.kept (Kept.drew (fun _ => False) w) (fun _ k => k.elim) (fun _ _ _ k => k)⟩
theorem StAft.undrew {D : Nat → Prop} {ρ ρ' : Nm} {st st' : St} {a' : Act} {w w' : World} (h : StAft P A D ρ st { w with drawn := w.drawn + 1 } st' ρ' a' w') : StAft P A D ρ st w st' ρ' a' w' :=
  ⟨h.same, h.ok, Kept.trans (Kept.drew (fun _ => False) w) h.kept (fun _ _ k => k.elim) (fun _ _ k => k), h.new⟩

/-- a loop, from the head of a round on -/
def wpL (P : Program) (c : Code) (Q : Exit → Act → World → Prop) (a : Act) (w : World) : Prop :=
  ∀ (b : Frame) (k : List Item) (cs : List Frame), ∃ e a' w', Q e a' w' ∧ Arrives P (lone (b.at a (.code c :: .inLoop c :: k)) cs w) b k cs e a' w'
theorem wpL_step {c : Code} {Q : Exit → Act → World → Prop} {a : Act} {w : World} (h : c.wp P (Exit.then (wpL P c Q) Q) a w) : wpL P c Q a w := by
  intro b k cs
  obtain ⟨e, a₁, w₁, hq, harr⟩ := h b (.inLoop c :: k) cs
  cases e with
  | normal =>
    obtain ⟨e₂, a₂, w₂, hq₂, harr₂⟩ := hq b k cs
    exact ⟨e₂, a₂, w₂, hq₂, .of_steps (Steps.trans harr (.one step_inLoop)) harr₂⟩
  | exit id => exact ⟨_, a₁, w₁, hq, .pass (x := .inLoop c) rfl (fun _ _ => .inl (by simp)) harr⟩
  | goto l => exact ⟨_, a₁, w₁, hq, .pass (x := .inLoop c) rfl (fun _ _ => .inl (by simp)) harr⟩
  | ret => exact ⟨_, a₁, w₁, hq, .pass (x := .inLoop c) rfl (fun _ _ => .inl (by simp)) harr⟩
  | panic ch => exact ⟨_, a₁, w₁, hq, .pass (x := .inLoop c) rfl (fun _ _ => .inl (by simp)) harr⟩
  | outgrown => exact ⟨_, a₁, w₁, hq, .pass (x := .inLoop c) rfl (fun _ _ => .inl (by simp)) harr⟩
theorem wp_of_wpL {c : Code} {Q : Exit → Act → World → Prop} {a : Act} {w : World} (h : wpL P c Q a w) : (Code.loop c).wp P Q a w := by
  intro b k cs
  obtain ⟨e, a', w', hq, harr⟩ := h b k cs
  exact ⟨e, a', w', hq, .of_steps (.one step_loop) harr⟩
theorem loopN_S {c : Code} {f : St → Option (X × St)} (hf : ∀ st x st', f st = some (x, st') → CodeS P A c st x st') : ∀ (n : Nat) (st : St) (x : X) (st' : St), loopN f n st = some (x, st') →
    Ext st st' ∧ Sound P A st.ts st'.ts (∀ (D : Nat → Prop) (ρ : Nm) (a : Act) (w : World) (Q : Exit → Act → World → Prop), StOK P A D ρ st a w → (∀ i, D i → ¬ (st.nx ≤ i ∧ i < st'.nx)) →
      (∀ ρ' a' w', StAft P A D ρ st w st' ρ' a' w' → Q (exitOf x) a' w') → wpL P c Q a w) ∧ x ≠ .nrm
  | 0, _, _, _, h => by cases h
  | n + 1, st, x, st', h => by
    simp only [loopN] at h
    split at h
    · rename_i st1 h1
      obtain ⟨e1, s1⟩ := hf _ _ _ h1
      obtain ⟨e2, s2, hx⟩ := loopN_S hf n st1 x st' h
      refine ⟨e1.trans e2, s1.bind (s2.mono fun k' h' D ρ a w Q hs hD hk => wpL_step (h' D ρ a w _ hs (fun i hi => fun ⟨x, y⟩ => hD i hi ⟨x, by have := e2.nx; omega⟩) fun ρ1 a1 w1 h3 => ?_)), hx⟩
      exact k' _ ρ1 a1 w1 Q h3.ok (ext_disj hD e1.nx) fun ρ2 a2 w2 h4 => hk ρ2 a2 w2 (StAft.trans e1 e2 hs.mem hD h3 h4)
    · rename_i hr
      have hx : x ≠ .nrm := fun e => by subst e; exact hr _ h
      obtain ⟨e1, s1⟩ := hf _ _ _ h
      refine ⟨e1, s1.mono fun h' D ρ a w Q hs hD hk => wpL_step (h' D ρ a w _ hs hD fun ρ1 a1 w1 h3 => ?_), hx⟩
      have := hk ρ1 a1 w1 h3
      cases x <;> first | exact absurd rfl hx | exact this
theorem look_spec {e : Env} : ∀ {l : List Nat} {vs : List (Nat × Value)}, look e l = some vs → ∀ t u, envL vs t = some u → e t = some u
  | [], vs, h, t, u, hu => by
    simp only [look, Option.some.injEq] at h
    subst h; cases hu
  | s :: l, vs, h, t, u, hu => by
    simp only [look] at h
    split at h
    · rename_i v hv
      split at h
      · rename_i r hr
        simp only [Option.some.injEq] at h
        subst h
        simp only [envL, Env.put] at hu
        cases hts : Nat.beq t s <;> simp only [hts, cond] at hu
        · exact look_spec hr t u hu
        · simp only [Option.some.injEq] at hu
          subst hu
          rw [Nat.eq_of_beq_eq_true hts]; exact hv
      · cases h
    · cases h
theorem exec_S (hm : P.follows .mixedOrders = true) {call : CallF} (hc : CallS P A call) (fuel : Nat) : ∀ (c : Code) (st : St) (x : X) (st' : St), exec P call fuel c st = some (x, st') → CodeS P A c st x st' := by
  intro c
  induction c with
  | skip =>
    intro st x st' h
    simp only [exec, Option.some.injEq, Prod.mk.injEq] at h
    obtain ⟨rfl, rfl⟩ := h
    exact CodeS.nil fun Q a w h => wp_skip h
  | label l =>
    intro st x st' h
    simp only [exec, Option.some.injEq, Prod.mk.injEq] at h
    obtain ⟨rfl, rfl⟩ := h
    exact CodeS.nil fun Q a w h => wp_label h
  | exit id =>
    intro st x st' h
    simp only [exec, Option.some.injEq, Prod.mk.injEq] at h
    obtain ⟨rfl, rfl⟩ := h
    exact CodeS.nil fun Q a w h => wp_exit h
  | ret =>
    intro st x st' h
    simp only [exec, Option.some.injEq, Prod.mk.injEq] at h
    obtain ⟨rfl, rfl⟩ := h
    exact CodeS.nil fun Q a w h => wp_ret h
  | region id ops draw =>
    intro st x st' h
    cases draw
    · simp only [exec, nrm] at h
      split at h
      · rename_i st1 h1
        simp only [Option.some.injEq, Prod.mk.injEq] at h
        obtain ⟨rfl, rfl⟩ := h
        obtain ⟨e, s⟩ := runSeq_S hc (Q := fun _ _ _ => True) ops.toList 0 st st1 (by simp) h1
        refine ⟨e, s.mono fun h' D ρ a w Q hs hD hk => wp_region ?_⟩
        have := h' D ρ a w (fun a w => Q .normal a w) hs hD hk Q (fun _ _ h => h)
        rwa [Array.length_toList, ← List.range_eq_range'] at this
      · cases h
    · simp only [exec, nrm] at h
      split at h
      · rename_i st1 h1
        simp only [Option.some.injEq, Prod.mk.injEq] at h
        obtain ⟨rfl, rfl⟩ := h
        obtain ⟨e, s⟩ := runDraw_S hc h1
        refine ⟨e, s.mono fun h' D ρ a w Q hs hD hk => wp_region_any hm ?_⟩
        exact h' D ρ a _ (fun a w => Q .normal a w) hs.drew hD (fun ρ' a' w' k => hk ρ' a' w' k.undrew) Q (fun _ _ h => h)
      · cases h
  | seq a b iha ihb =>
    intro st x st' h
    simp only [exec] at h
    split at h
    · rename_i st1 h1
      exact CodeS.seq (iha _ _ _ h1) (ihb _ _ _ h)
    · rename_i hr
      obtain ⟨e, s⟩ := iha _ _ _ h
      refine ⟨e, s.mono fun h' D ρ ac w Q hs hD hk => wp_seq (h' D ρ ac w _ hs hD fun ρ1 a1 w1 h3 => ?_)⟩
      have := hk ρ1 a1 w1 h3
      cases x <;> first | exact absurd h (hr _) | exact this
  | cond c a b iha ihb =>
    intro st x st' h
    simp only [exec] at h
    split at h
    · rename_i y hy
      split at h
      · rename_i ts hb
        obtain ⟨e, s⟩ := iha _ _ _ h
        refine ⟨⟨e.nx, e.n, e.mem⟩, (Sound.bool (P := P) (A := A) hb).bind (Sound.like (s.mono fun h' hyt D ρ ac w Q hs hD hk => ?_) ⟨rfl, rfl⟩ ⟨rfl, rfl⟩)⟩
        subst hyt
        have he := (Looks.all st.env).ev hs.fr c _ hy
        exact wp_cond_true he.1 (h' D ρ ac w Q ⟨hs.fr, hs.size, hs.defers, hs.mem⟩ hD fun ρ' a' w' k => hk ρ' a' w' ⟨k.same, k.ok, k.kept, k.new⟩)
      · rename_i ts hb
        obtain ⟨e, s⟩ := ihb _ _ _ h
        refine ⟨⟨e.nx, e.n, e.mem⟩, (Sound.bool (P := P) (A := A) hb).bind (Sound.like (s.mono fun h' hyt D ρ ac w Q hs hD hk => ?_) ⟨rfl, rfl⟩ ⟨rfl, rfl⟩)⟩
        subst hyt
        have he := (Looks.all st.env).ev hs.fr c _ hy
        exact wp_cond_false he.1 (h' D ρ ac w Q ⟨hs.fr, hs.size, hs.defers, hs.mem⟩ hD fun ρ' a' w' k => hk ρ' a' w' ⟨k.same, k.ok, k.kept, k.new⟩)
    · cases h
  | block id c ih =>
    intro st x st' h
    simp only [exec] at h
    split at h
    · rename_i j st1 h1
      obtain ⟨e, s⟩ := ih _ _ _ h1
      cases hb : Nat.beq j id <;> simp only [hb, cond, Option.some.injEq, Prod.mk.injEq] at h
      · obtain ⟨rfl, rfl⟩ := h
        refine ⟨e, s.mono fun h' D ρ ac w Q hs hD hk => wp_block (h' D ρ ac w _ hs hD fun ρ1 a1 w1 h3 => ?_)⟩
        have := hk ρ1 a1 w1 h3
        show if j = id then _ else _
        rw [if_neg (Nat.ne_of_beq_eq_false hb)]
        exact this
      · obtain ⟨rfl, rfl⟩ := h
        refine ⟨e, s.mono fun h' D ρ ac w Q hs hD hk => wp_block (h' D ρ ac w _ hs hD fun ρ1 a1 w1 h3 => ?_)⟩
        have := hk ρ1 a1 w1 h3
        show if j = id then _ else _
        rw [if_pos (Nat.eq_of_beq_eq_true hb)]
        exact this
    · rename_i hr
      obtain ⟨e, s⟩ := ih _ _ _ h
      refine ⟨e, s.mono fun h' D ρ ac w Q hs hD hk => wp_block (h' D ρ ac w _ hs hD fun ρ1 a1 w1 h3 => ?_)⟩
      have := hk ρ1 a1 w1 h3
      cases x <;> first | exact absurd h (hr _ _) | exact this
  | loop c ih =>
    intro st x st' h
    simp only [exec] at h
    split at h
    · rename_i slots ids y vals out d r hp
      split at h
      · rename_i vs hvs
        split at h
        · rename_i sn hsn
          cases hb : outOK ids st.nx d out <;> simp only [hb, cond] at h
          · cases h
          · simp only [Option.some.injEq, Prod.mk.injEq] at h
            obtain ⟨rfl, rfl⟩ := h
            have hl := outLog_ok hsn hb
            obtain ⟨h1, h2, h3⟩ := memL_snap hsn
            refine ⟨⟨Nat.le_add_right _ _, rfl, _, rfl, hl.sub h2, rfl⟩, (Sound.pop hp (.lp c st.n vs sn st.nx)).mono fun k D ρ a w Q hs hD hk => ?_⟩
            refine k D ρ a w Q (fun t u hu => hs.fr t u trivial (look_spec hvs t u hu)) hs.size hs.defers (hs.mem.sub h2) hD fun ρ' a' w' hf hsz hdf ha => ?_
            have ha := ha.frame hs.mem h2 hl hD
            exact hk ρ' a' w' ⟨ha.same, ⟨fun t u _ hu => hf t u hu, hsz, hdf, ha.mem⟩, ha.kept, ha.new⟩
        · cases h
      · cases h
    · obtain ⟨e, s, _⟩ := loopN_S (fun st x st' h => ih st x st' h) fuel st x st' h
      exact ⟨e, s.mono fun h' D ρ ac w Q hs hD hk => wp_of_wpL (h' D ρ ac w Q hs hD hk)⟩
  | _ => intro st x st' h; cases h
end Rx
end Go.Proofs.YtilfcikhipadpaaGreatDoor
end

section
/- A run reckoned by the kernel: functions; the theorem that proofs use. No program. -/
set_option linter.unusedVariables false
set_option linter.unusedSimpArgs false
namespace Go.Proofs.YtilfcikhipadpaaGreatDoor
open Go.RowKit Go.Lib
namespace Rx
variable {P : Program} {A : Amb}

def resF (tmps : Array Value) : ResultVar → Sem Value
  | .tmp t => pure (tmps.getD t undef)
  | .cell p t => do loadVar t (← asAddr (tmps.getD p undef))
theorem resA_run {D : Nat → Prop} {ρ : Nm} {e : Env} {m : Mem} {a : Act} {w : World} (hf : FrOK D ρ (fun _ => True) e a) (hm : MemOK P A D ρ m w) : ∀ (rs : List ResultVar) (vs : List Value), resA P e m rs = some vs → vs.all notTuple = true →
    (rs.mapM (resF a.tmps)).run P w = .ok (vs.map (ren ρ)) w ∧ ∀ v ∈ vs, Fit D v
  | [], vs, h, _ => by
    simp only [resA, Option.some.injEq] at h
    subst h
    exact ⟨rfl, fun _ h => by cases h⟩
  | .tmp t :: rs, vs, h, hn => by
    simp only [resA] at h
    split at h
    · rename_i v hv
      split at h
      · rename_i us hus
        simp only [Option.some.injEq] at h
        subst h
        simp only [List.all_cons, Bool.and_eq_true] at hn
        obtain ⟨h1, h2⟩ := resA_run hf hm rs us hus hn.2
        obtain ⟨h3, h4⟩ := hf t v trivial hv
        refine ⟨?_, fun u hu => ?_⟩
        · rw [List.mapM_cons]
          have : (resF a.tmps (.tmp t)).run P w = .ok (ren ρ v) w := by
            have := eval_tmp h3
            simp only [Act.eval] at this
            simp only [resF]
            rw [this]; rfl
          rw [run_bind_ok this, run_bind_ok h1]
          rfl
        · rcases List.mem_cons.1 hu with rfl | hu
          · exact h4
          · exact h2 u hu
      · cases h
    · cases h
  | .cell p t :: rs, vs, h, hn => by
    simp only [resA] at h
    split at h
    · rename_i q hq
      split at h
      · rename_i v hv
        split at h
        · rename_i us hus
          simp only [Option.some.injEq] at h
          subst h
          simp only [List.all_cons, Bool.and_eq_true] at hn
          obtain ⟨h1, h2⟩ := resA_run hf hm rs us hus hn.2
          obtain ⟨ad, rfl, h5, h6, _⟩ := loadA_run hm hv
          obtain ⟨h3, h4⟩ := hf p _ trivial hq
          refine ⟨?_, fun u hu => ?_⟩
          · rw [List.mapM_cons]
            have h7 : (asAddr (a.tmps.getD p undef) : Sem Addr).run P w = .ok (renA ρ ad) w := by
              have := eval_tmp h3
              simp only [Act.eval] at this
              rw [this]; rfl
            have h8 : (resF a.tmps (.cell p t)).run P w = .ok (ren ρ v) w := by
              simp only [resF]
              rw [run_bind_ok h7]; exact h5
            rw [run_bind_ok h8, run_bind_ok h1]
            rfl
          · rcases List.mem_cons.1 hu with rfl | hu
            · exact h6
            · exact h2 u hu
        · cases h
      · cases h
    · cases h
theorem ren_one {ρ : Nm} {vs : List Value} (h : vs.all notTuple = true) : (if hs : (vs.map (ren ρ)).toArray.size = 1 then (vs.map (ren ρ)).toArray[0] else .tuple (vs.map (ren ρ)).toArray) = ren ρ (one vs) := by
  match vs, h with
  | [], _ => rfl
  | [v], _ => rfl
  | a :: b :: c, h =>
    have : (a :: b :: c).map (ren ρ) = (a :: b :: c).map (ren1 ρ) := List.map_congr_left fun v hv => ren_notTuple (List.all_eq_true.1 h v hv)
    rw [dif_neg (by simp)]
    simp only [one, ren]
    rw [this]
theorem results_run {fn : Func} {D : Nat → Prop} {ρ : Nm} {e : Env} {m : Mem} {a : Act} {w : World} (hf : FrOK D ρ (fun _ => True) e a) (hm : MemOK P A D ρ m w) {vs : List Value} (h : resA P e m fn.results.toList = some vs) (hn : vs.all notTuple = true) :
    (results fn a.tmps).run P w = .ok (ren ρ (one vs)) w ∧ Fit D (one vs) := by
  obtain ⟨h1, h2⟩ := resA_run hf hm _ _ h hn
  refine ⟨?_, Fit.one fun v hv => ⟨h2 v hv, List.all_eq_true.1 hn v hv⟩⟩
  have h3 : (fn.results.mapM (resF a.tmps)).run P w = .ok (vs.map (ren ρ)).toArray w := by
    rw [Array.mapM_eq_mapM_toList, Sem.run_map, h1]
    rfl
  have h4 : results fn a.tmps = (fn.results.mapM (resF a.tmps) >>= fun vs => pure (if h : vs.size = 1 then vs[0] else .tuple vs)) := by
    unfold results
    rfl
  rw [h4, run_bind_ok h3, ← ren_one hn]
  rfl
theorem maxN_eq (a b : Nat) : maxN a b = max a b := by
  unfold maxN
  cases h : Nat.ble a b <;> simp only [cond]
  · have := Nat.not_le_of_not_ble_eq_true (by rw [h]; exact Bool.false_ne_true); omega
  · have := Nat.le_of_ble_eq_true h; omega
theorem callN_S (hm : P.follows .mixedOrders = true) : ∀ k, CallS P A (callN P k)
  | 0 => fun f args m nx ts out h => by cases h
  | k + 1 => fun f args m nx ts out h => by
    simp only [callN] at h
    split at h
    · rename_i fn hfn
      split at h
      · rename_i c hbody
        split at h
        · cases h
        · rename_i x st hne hx
          split at h
          · rename_i vs hvs
            cases hb : vs.all notTuple <;> simp only [hb, cond] at h
            · cases h
            · simp only [Option.some.injEq] at h
              subst h
              obtain ⟨e, s⟩ := exec_S (A := A) hm (callN_S hm k) k c _ x st hx
              obtain ⟨l, e1, e2, e3⟩ := e.mem
              have e3 : st.log = l := by rw [e3]; simp
              refine ⟨e.nx, by rw [e3]; exact e2, rfl, s.mono fun h' D ρ w hmem hargs hD => ?_⟩
              refine calls_of_wp hfn hbody (h' D ρ _ w _ ⟨fun t u _ hu => ?_, ?_, rfl, hmem⟩ hD fun ρ' a' w' k' => ?_)
              · simp only [env0] at hu
                split at hu
                · rename_i v hv
                  simp only [Option.some.injEq] at hu
                  subst hu
                  refine ⟨?_, hargs _ (List.mem_of_getElem? hv)⟩
                  have hlt := (List.getElem?_eq_some_iff.1 hv).1
                  simp [Array.getElem?_append, hlt, (List.getElem?_eq_some_iff.1 hv).2]
                · rename_i hv
                  cases hb2 : Nat.blt t fn.ntmps <;> simp only [hb2, cond] at hu
                  · cases hu
                  · simp only [Option.some.injEq] at hu
                    subst hu
                    refine ⟨?_, Fit.real rfl⟩
                    have h1 : args.length ≤ t := List.getElem?_eq_none_iff.1 hv
                    have h2 : t < fn.ntmps := by simpa [Nat.blt_eq] using hb2
                    rw [Array.getElem?_append_right (by simpa using h1)]
                    simp only [List.size_toArray, List.length_map]
                    rw [Array.getElem?_replicate, if_pos (by omega)]
                    rfl
              · simp [maxN_eq]; omega
              · have hr := results_run k'.ok.fr k'.ok.mem hvs hb
                have hend : bodyPost P fn (fun e w' => ∃ ρ', e = .returned (ren ρ' (one vs)) ∧ Aft P A D ρ m nx w (one vs) st.log st.nx ρ' w') .normal a' w' := by
                  refine ⟨k'.ok.defers, _, hr.1, ρ', rfl, k'.same, hr.2, ?_, k'.kept, fun i b h1 h2 h3 => k'.new i b h1 h2 (by rw [e1, ← e3]; exact h3)⟩
                  have := k'.ok.mem
                  rw [e1, ← e3] at this
                  exact this
                cases x with
                | nrm => exact hend
                | ret => exact hend
                | ex id => exact (hne id rfl).elim
          · cases h
        · cases h
      · cases h
    · cases h

/-- a question with its answer, and why it is right -/
structure Ev (P : Program) (A : Amb) where
  at_ : Nat
  ans : Ans
  key : Key
  ok : okP P A ans key
def asOf (evs : List (Ev P A)) : List (Nat × Ans) := evs.map fun e => (e.at_, e.ans)
def keysOf (evs : List (Ev P A)) : List Key := evs.map (·.key)
theorem ok_all {evs : List (Ev P A)} : ∀ {l : List ((Nat × Ans) × Key)}, asOf evs = l.map (·.1) → keysOf evs = l.map (·.2) → ∀ p ∈ l, okP P A p.1.2 p.2 := by
  induction evs with
  | nil => intro l h1 _ p hp; cases l with
    | nil => cases hp
    | cons x l => cases h1
  | cons e evs ih => intro l h1 h2 p hp; cases l with
    | nil => cases hp
    | cons x l =>
      simp only [asOf, keysOf, List.map_cons, List.cons.injEq] at h1 h2
      rcases List.mem_cons.1 hp with rfl | hp
      · rw [← h1.1, ← h2.1]; exact e.ok
      · exact ih h1.2 h2.2 p hp
def yes (n : Nat) {b : Bool} (h : b = true) : Ev P A := ⟨n, .br true, .b b, h⟩
def no (n : Nat) {b : Bool} (h : b = false) : Ev P A := ⟨n, .br false, .b b, h⟩
def does (n : Nat) {f : FuncId} {args : List Value} {v : Value} (h : ∀ W, A.S W → Calls P f args.toArray W (Ret v W)) : Ev P A := ⟨n, .call v, .c f args, h⟩
def reads (n : Nat) (ids : List Nat) {f : FuncId} {args : List Value} {sn : List (Nat × Blk)} {v : Value} (h : ∀ (ρ : Nm) (W : World), A.S W → (∀ e ∈ sn, Lies ρ W (ρ e.1).1 e.2.1 e.2.2.1 (P.cellsOf e.2.2.1) (ρ e.1).2 e.2.2.2) → Calls P f (args.map (ren ρ)).toArray W (Ret v W)) : Ev P A := ⟨n, .callR ids v, .cr f args sn, h⟩
def gives (n : Nat) {s : Sem Next} {v : Value} (h : ∀ W, A.S W → s.run P W = .ok (.value v) W) : Ev P A := ⟨n, .op v, .s s, h⟩
def is (n : Nat) {x y : Value} (h : x = y) : Ev P A := ⟨n, .eq y, .v x, h⟩
def isT (n : Nat) {b : Bool} (h : b = true) : Ev P A := is n (x := .bool b) (y := .bool true) (congrArg _ h)
def isF (n : Nat) {b : Bool} (h : b = false) : Ev P A := is n (x := .bool b) (y := .bool false) (congrArg _ h)
/-- what a run says: the value, what of the answers is left, the questions -/
def res (P : Program) (f : FuncId) (args : List Value) (qs : List (Nat × Ans)) : Option (Value × List (Nat × Ans) × List Key) :=
  match go P f args qs with
  | some ⟨v, _, _, ts⟩ => some (v, ts.qs, ts.ks)
  | none => none
/-- THE THEOREM: what the kernel reckons of a way is what the call does. -/
theorem run {w0 : World} {f : FuncId} {args : List Value} {v : Value} (evs : List (Ev P (Amb.of w0))) (h : res P f args (asOf evs) = some (v, [], (keysOf evs).reverse) := by kernel_rfl) (hm : P.follows .mixedOrders = true := by kernel_rfl) (ha : args.all real = true := by kernel_rfl) (hv : real v = true := by kernel_rfl) :
    Calls P f args.toArray w0 (Ret v w0) := by
  unfold res at h
  split at h
  · rename_i v' l nx ts hgo
    simp only [Option.some.injEq, Prod.mk.injEq] at h
    obtain ⟨rfl, h1, h2⟩ := h
    obtain ⟨_, _, _, tr, ⟨t1, t2⟩, hs⟩ := callN_S (A := Amb.of w0) hm fuel0 f args _ 0 ⟨0, asOf evs, []⟩ _ hgo
    have t1 : asOf evs = tr.map (·.1) := by rw [h1] at t1; simpa using t1
    have t2 : keysOf evs = tr.map (·.2) := by
      rw [h2] at t2
      have := congrArg List.reverse t2
      simpa using this
    have hc := hs (ok_all t1 t2) (fun _ => False) (fun _ => (0, 0)) w0 ⟨Below.refl _ _, fun {i b} h => (by cases h), fun {i cs T r} h => (by cases h), fun {i cs T r} h => (by cases h), fun {i j b c} h => (by cases h)⟩ (fun u hu => Fit.real (List.all_eq_true.1 ha u hu)) (fun _ h => h.elim)
    rw [ren_list_real ha] at hc
    refine hc.mono ?_
    rintro e w' ⟨ρ', rfl, k⟩
    exact ⟨by rw [ren_real hv], k.mem.s⟩
  · cases h
end Rx
end Go.Proofs.YtilfcikhipadpaaGreatDoor
end
